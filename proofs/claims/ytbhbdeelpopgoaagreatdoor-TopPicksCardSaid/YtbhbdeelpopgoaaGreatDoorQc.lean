/-
  append: where a slice's room is known, and where it is not. Handlers: texts and bytes, copy, lengths, least and greatest ones, new rows. Handlers: copy, lengths, least and greatest ones, new rows and maps. Handlers: copy, new rows, maps. Handlers: maps that are written, new maps and rows, copy. Handlers: copy, what is taken out of maps, new rows, what an interface value holds, texts letter by letter. Handlers: new rows, what an interface value holds, texts letter by letter. Bytes of a row as a text, without a copy: the row is not written after that. Which operation: calls of builtin functions, calls that enter a function, and all the others. One operation, a list of operations. Operations one behind the other. Code: what it comes to, by how it ends. A function that is called. Rules: interface values held against nil, asserted; deferred calls that recover; results in variables.
-/
import Derived.Test.YtbhbdeelpopgoaaGreatDoorQb
import Derived.Laws.BytesString
import Derived.Lib.UnsafeStr
import Derived.Test.YtbhbdeelpopgoaaGreatDoorQa
import Derived.LaidEql
import Derived.WideLaws
set_option linter.unusedVariables false
set_option linter.unusedSimpArgs false
namespace Go.Proofs.YtbhbdeelpopgoaaGreatDoor.E
open Go Go.RowKit H
section
variable {P : Program} {fl : Nat} {env : Tr AV} {h : Hp} {ty : TypeId}
noncomputable def isSoS(d:TypeDesc)(k:Bool):Bool:=match d with | .string=>k | .slice _=>k|_=>false
theorem isSoS_ok{d:TypeDesc}{k:Bool}(h:isSoS d k=true):(d = .string∨∃e,d = .slice e)∧k=true:=by cases d <;> first|exact⟨.inl rfl,h⟩|exact⟨.inr ⟨_,rfl⟩,h⟩|cases h
noncomputable def killNew(h:Hp)(i:Nat)(b:Blk)(k:Nat→Hp→Bool):Bool:=Hp.rec (motive:=fun _=>Bool) (fun n t=>Tr.setK none (bits i) t fun tr=>newH ⟨n,tr⟩ b k) h
theorem killNew_ok{i:Nat}{b:Blk}{k:Nat→Hp→Bool}(hk:killNew h i b k=true):h.next < LIM∧k h.next ((h.put i none).new b)=true:=by
 cases h with
 | mk n t=>
  replace hk:Tr.setK none (bits i) t (fun tr=>newH ⟨n,tr⟩ b k)=true:=hk
  rw[Tr.setK_eq] at hk
  exact newH_ok hk
noncomputable def hAppend(P:Program)(fl:Nat)(t u:TypeId)(v1 v2:AV)(h:Hp)(k:AV→Hp→Bool):Bool:=tyK P t fun d=>isSliceT d fun e=>tyK P u fun du=>isSoS du (infoK P e fun i=>ife (Nat.beq i.size 0) false (someK i.zero fun z=>someK (ofV z) fun zv=>cellsOf zv fun zc=>lenK zc fun zl=>ask (Nat.beq zl i.size) (srcK i.size v2 h fun m xs=>onesA xs (match v1 with
 | .nils=>ife (Nat.beq m 0) (k .nils h) (ask (Nat.ble m 1000000000) (ask (Nat.ble (Nat.mul m i.bytes) 140737488355328) (newH h (.cells e true false xs) fun j h=>k (.slx j 0 m i.size) h)))
 | .sl g o n c=>natK (Nat.add n m) fun nm=>ask (Nat.ble nm 1000000000) (ask (Nat.ble (Nat.mul nm i.bytes) 140737488355328) (ife (Nat.ble nm c)
   (ife (Nat.beq m 0) (k (.sl g o nm c) h) (ask (Nat.ble fl g) (cellsK h g fun bt opn ro cs=>ife ro false (putK xs cs (Nat.add o (Nat.mul n i.size)) fun cs=>putH h g (.cells bt opn ro cs) fun h=>k (.sl g o nm c) h))))
   (srcK i.size (.sl g o n c) h fun _ olds=>catK olds xs fun cs=>newH h (.cells e true false cs) fun j h=>k (.slx j 0 nm i.size) h)))
 | .slx g o n z=>ask (Nat.beq z i.size) (ask (Nat.beq o 0) (ife (Nat.beq m 0) (k (.slx g o n z) h) (natK (Nat.add n m) fun nm=>ask (Nat.ble nm 1000000000) (ask (Nat.ble (Nat.mul nm i.bytes) 140737488355328) (ask (Nat.ble fl g) (cellsK h g fun bt opn ro cs=>ife ro false (ask (Nat.beq bt e) (takeK cs (Nat.mul n i.size) fun olds=>lenK olds fun ol=>ask (Nat.beq ol (Nat.mul n i.size)) (catK olds xs fun cs=>killNew h g (.cells e true false cs) fun j h=>k (.slx j 0 nm i.size) h)))))))))
 | _=>false))))
def Ao(P:Program)(fl:Nat)(t u ty:TypeId)(v1 v2:AV)(h:Hp)(v:AV)(h':Hp):Prop:=∀S w0 r w x1 x2,Rel S w0 fl r h w→real r v1=some x1→real r v2=some x2→∃r' w' x,Ext r r'∧Rel S w0 fl r' h' w'∧real r' v=some x∧(Builtin.append_ #[t,u] ty #[x1,x2]).run P w = .ok x w'
theorem zeroCells_len(z:Array Value)(n:Nat):(Builtin.zeroCells z n).size=n * z.size:=by simp[Builtin.zeroCells]
theorem grown_rel{S:Nat→Prop}{w0:World}{r:Ren}{w:World}(hR:Rel S w0 fl r h w)(hn:h.next < LIM){e:TypeId}{z:Value}{s:Nat}(hz:z.cells.size=s)(hs:0 < s){cs:List AV}{us:List Value}(hus:reals r cs=some us){nm c:Nat}(hl:us.length=nm * s)(h63:nm≤maxLen):
  ∃r',Ext r r'∧Rel S w0 fl r' (h.new (.cells e true false cs)) (w.drew.alloc (.cells (us++(Builtin.zeroCells z.cells (grownCap w nm c e - nm)).toList).toArray e))∧real r' (.slx h.next 0 nm s)=some (.slice (some ⟨w.heap.size,0,none⟩) nm (grownCap w nm c e)):=by
 have hge:=grownCap_ge w nm c e
 have hle:=grownCap_le_maxLen w nm c e h63
 have hx:=upd_ext hR (w.heap.size,grownCap w nm c e * s)
 have hsz:us.length+(Builtin.zeroCells z.cells (grownCap w nm c e - nm)).size=grownCap w nm c e * s:=by
  rw[zeroCells_len,hz,hl,←Nat.add_mul]; congr 1; omega
 refine⟨_,hx,hR.new hn ((Kept.drew w).trans0 (Kept.alloc w.drew _)) (Nat.le_refl _) ⟨_,(0,0),us,heap_alloc_new w.drew _,?_,reals_mono hx _ _ hus,?_,?_,fun c=>(by cases c),fun _=> .inl rfl⟩,?_⟩
 ·simp; exact hsz
 ·rw[←reals_len hus]; simp
 ·show cs.length≤grownCap w nm c e * s
  rw[←reals_len hus]; omega
 ·have hd:grownCap w nm c e * s / s=grownCap w nm c e:=Nat.mul_div_cancel _ hs
  have hm:nm * s≤grownCap w nm c e * s:=Nat.mul_le_mul_right _ hge
  simp only[real,upd_same,Option.bind_some,Nat.zero_add,Nat.sub_zero,hd]
  rw[if_pos ⟨hs,hm,hle⟩]
theorem store_rel{S:Nat→Prop}{w0:World}{r:Ren}{w:World}(hR:Rel S w0 fl r h w){i o:Nat}(hfl:fl≤i){p:Nat×Nat}(hp:r i=some p){bt:TypeId}{opn ro:Bool}{cs vs:List AV}(hb:h.at i=some (.cells bt opn ro cs))(hro:ro=false)(h1 : ∀v∈vs,oneA v=true){xs:List Value}(hxs:reals r vs=some xs)(hlen:o+vs.length≤cs.length):
  ∃w',(storeCells ⟨p.1,o,none⟩ xs).run P w = .ok () w'∧Rel S w0 fl r (h.put i (some (.cells bt opn ro (cs.take o++(vs++cs.drop (o+vs.length)))))) w':=by
 obtain⟨c,fz,us,e1,e2,e3,e4,e5,e6,e7⟩:=hR.at hp hb
 have hxl:=reals_len hxs
 have hus:=reals_len e3
 have hcs:c.toList.length=p.2:=by simpa using e2
 obtain⟨w',hr,hh,hkp⟩:=run_stores P p.1 o bt fz xs 0 c w e1 (by omega) (ones_real h1 hxs) (fun j hj q=>by rcases e7 hro with c7|c7 <;> omega)
 refine⟨w',hr,hR.put hfl hp hb hkp ⟨_,fz,_,hh,?_,reals_splice o vs.length e3 hxs,?_,?_,fun hq=>?_,fun hq=>?_⟩⟩
 ·simp; omega
 ·have q:(cs.take o++(vs++cs.drop (o+vs.length))).length=cs.length:=by simp; omega
  rw[q,e4]
  have:=splice_take c.toList xs cs.length o vs.length hxl (by omega) hlen
  simpa [hxl] using this
 ·simp; omega
 ·have:=e6 hq; simp; omega
 ·exact e7 hq
theorem hAppend_ok{t u:TypeId}{v1 v2:AV}{k:AV→Hp→Bool}(hk:hAppend P fl t u v1 v2 h k=true): ∃v h',k v h'=true∧Ao P fl t u ty v1 v2 h v h':=by
 obtain⟨d,hd,hk⟩:=tyK_ok hk
 obtain⟨e,rfl,hk1⟩:=isSliceT_ok hk
 obtain⟨du,hdu,hk2⟩:=tyK_ok hk1
 obtain⟨hu,hk3⟩:=isSoS_ok hk2
 have hu:P.underlying u=some .string∨∃e',P.underlying u=some (.slice e'):=by
  rcases hu with rfl|⟨e',rfl⟩
  ·exact .inl hdu
  ·exact .inr ⟨e',hdu⟩
 clear hk hk1 hk2
 obtain⟨i,hi,hk⟩:=infoK_ok hk3
 clear hk3
 rcases ife_ok hk with ⟨_,hk1⟩|⟨h0,hk1⟩
 ·cases hk1
 have h0:i.size≠0:=fun c=>by rw[c] at h0; cases h0
 obtain⟨z,hz,hk2⟩:=someK_ok hk1
 obtain⟨zv,hzv,hk3⟩:=someK_ok hk2
 rw[cellsOf_eq,lenK_eq] at hk3
 obtain⟨hzl,hk4⟩:=ask_ok hk3
 obtain⟨us0,hus0,hc0⟩:=real_cells (ofV_ok hzv ⟨fun _=>none,fun _=>False,sg0⟩)
 have hzs:z.cells.size=i.size:=by rw[hc0]; simp[reals_len hus0,Nat.eq_of_beq_eq_true hzl]
 obtain⟨m,xs,hk5,hS⟩:=srcK_ok (P:=P) (fl:=fl) hk4
 obtain⟨hones,hk6⟩:=onesA_ok hk5
 clear hk hk1 hk2 hk3 hk4 hk5
 have hpos:0 < i.size:=Nat.pos_of_ne_zero h0
 cases v1 with
 | nils=>
  rcases ife_ok hk6 with ⟨hm,hk⟩|⟨hm,hk⟩
  ·have hm:=Nat.eq_of_beq_eq_true hm
   subst hm
   refine⟨_,_,hk,fun S w0 r w x1 x2 hR hx1 hx2=>?_⟩
   obtain⟨us,hus,hsrc⟩:=hS S w0 r w x2 hR hx2
   have hus0:us=[]:=List.length_eq_zero_iff.1 (by rw[hsrc.len]; simp)
   subst hus0
   cases hx1
   exact⟨r,w,_,Ext.refl r,hR,rfl,run_none P hd hu hi hsrc⟩
  ·obtain⟨b1,hk⟩:=ask_ok hk
   obtain⟨b2,hk⟩:=ask_ok hk
   have b1:=ble_le b1
   have b2:m * i.bytes≤140737488355328:=ble_le b2
   obtain⟨hn,hk⟩:=newH_ok hk
   have hm0:m≠0:=fun c=>by rw[c] at hm; cases hm
   refine⟨_,_,hk,fun S w0 r w x1 x2 hR hx1 hx2=>?_⟩
   obtain⟨us,hus,hsrc⟩:=hS S w0 r w x2 hR hx2
   cases hx1
   have hml:m≤maxLen:=by simp only[maxLen]; omega
   obtain⟨r',hx,hR',hv⟩:=grown_rel (e:=e) (c:=0) hR hn hzs hpos hus hsrc.len hml
   have ho:SrcAt P i.size w (.slice none 0 0) 0 []:=⟨by simp,fun w'=>by simp[Builtin.lenOf],fun n hn w' _=>by simp[Builtin.firstCells]⟩
   have hr:=run_new P (ty:=ty) hd hu hi hz none 0 0 hsrc ho (by omega) (by simpa using hml) (by simpa using b2)
   simp only[Nat.zero_add,List.nil_append] at hr
   exact⟨r',_,_,hx,hR',hv,hr⟩
 | sl g o n c=>
  replace hk6:natK (Nat.add n m) (fun nm=>ask (Nat.ble nm 1000000000) (ask (Nat.ble (Nat.mul nm i.bytes) 140737488355328) (ife (Nat.ble nm c)
   (ife (Nat.beq m 0) (k (.sl g o nm c) h) (ask (Nat.ble fl g) (cellsK h g fun bt opn ro cs=>ife ro false (putK xs cs (Nat.add o (Nat.mul n i.size)) fun cs=>putH h g (.cells bt opn ro cs) fun h=>k (.sl g o nm c) h))))
   (srcK i.size (.sl g o n c) h fun _ olds=>catK olds xs fun cs=>newH h (.cells e true false cs) fun j h=>k (.slx j 0 nm i.size) h))))=true:=hk6
  rw[natK_eq,Nat.add_eq] at hk6
  obtain⟨b1,hk6⟩:=ask_ok hk6
  obtain⟨b2,hk6⟩:=ask_ok hk6
  have b1:=ble_le b1
  have b2:(n+m) * i.bytes≤140737488355328:=ble_le b2
  have hml:n+m≤maxLen:=by simp only[maxLen]; omega
  rcases ife_ok hk6 with ⟨hfit,hk⟩|⟨hfit,hk⟩
  ·have hfit:=ble_le hfit
   rcases ife_ok hk with ⟨hm,hk⟩|⟨hm,hk⟩
   ·have hm:=Nat.eq_of_beq_eq_true hm
    subst hm
    refine⟨_,_,hk,fun S w0 r w x1 x2 hR hx1 hx2=>?_⟩
    obtain⟨us,hus,hsrc⟩:=hS S w0 r w x2 hR hx2
    have hus0:us=[]:=List.length_eq_zero_iff.1 (by rw[hsrc.len]; simp)
    subst hus0
    obtain⟨p,hp,rfl⟩:=real_sl hx1
    exact⟨r,w,_,Ext.refl r,hR,by rw[real,hp]; rfl,run_fit P hd hu hi _ n c hsrc hfit (by simp[storeCells])⟩
   ·obtain⟨hfl,hk⟩:=ask_ok hk
    obtain⟨bt,opn,ro,cs,hb,hk⟩:=cellsK_ok hk
    rcases ife_ok hk with ⟨_,hk⟩|⟨hro,hk⟩
    ·cases hk
    obtain⟨hlen,hk⟩:=putK_ok hk
    rw[putH_eq] at hk
    refine⟨_,_,hk,fun S w0 r w x1 x2 hR hx1 hx2=>?_⟩
    obtain⟨us,hus,hsrc⟩:=hS S w0 r w x2 hR hx2
    obtain⟨p,hp,rfl⟩:=real_sl hx1
    obtain⟨w',hst,hR'⟩:=store_rel (P:=P) hR (ble_le hfl) hp hb hro hones hus hlen
    exact⟨r,w',_,Ext.refl r,hR',by rw[real,hp]; rfl,run_fit P hd hu hi _ n c hsrc hfit (by rw[addr_add]; exact hst)⟩
  ·have hfit:c < n+m:=by
    rcases Nat.lt_or_ge c (n+m) with q|q
    ·exact q
    ·rw[ble_dec] at hfit; simp[q] at hfit
   obtain⟨n',olds,hk,hO⟩:=srcK_ok (P:=P) (fl:=fl) hk
   rw[catK_eq] at hk
   obtain⟨hn,hk⟩:=newH_ok hk
   refine⟨_,_,hk,fun S w0 r w x1 x2 hR hx1 hx2=>?_⟩
   obtain⟨us,hus,hsrc⟩:=hS S w0 r w x2 hR hx2
   obtain⟨os,hos,hosrc⟩:=hO S w0 r w x1 hR hx1
   obtain⟨p,hp,rfl⟩:=real_sl hx1
   have e1:n'=n:=by
    have:=(hosrc.lenOf w).symm.trans (show _=Result.ok n w by simp[Builtin.lenOf])
    simpa using this
   subst e1
   obtain⟨r',hx,hR',hv⟩:=grown_rel (e:=e) (c:=c) hR hn hzs hpos (reals_app hos hus) (by rw[List.length_append,hosrc.len,hsrc.len,Nat.add_mul]) hml
   have hr:=run_new P (ty:=ty) hd hu hi hz _ n' c hsrc hosrc hfit hml b2
   rw[←List.append_assoc] at hr
   exact⟨r',_,_,hx,hR',hv,hr⟩
 | slx g o n zz=>
  obtain⟨c1,hk6⟩:=ask_ok hk6
  obtain⟨c2,hk6⟩:=ask_ok hk6
  have c1:=Nat.eq_of_beq_eq_true c1
  have c2:=Nat.eq_of_beq_eq_true c2
  subst c1 c2
  rcases ife_ok hk6 with ⟨hm,hk⟩|⟨hm,hk⟩
  ·have hm:=Nat.eq_of_beq_eq_true hm
   subst hm
   refine⟨_,_,hk,fun S w0 r w x1 x2 hR hx1 hx2=>?_⟩
   obtain⟨us,hus,hsrc⟩:=hS S w0 r w x2 hR hx2
   have hus0:us=[]:=List.length_eq_zero_iff.1 (by rw[hsrc.len]; simp)
   subst hus0
   obtain⟨p,hp,q1,q2,q3,e1⟩:=real_slx hx1
   subst e1
   exact⟨r,w,_,Ext.refl r,hR,hx1,run_fit P hd hu hi _ n _ hsrc ((Nat.le_div_iff_mul_le q1).2 (by simpa using q2)) (by simp[storeCells])⟩
  ·replace hk:natK (Nat.add n m) (fun nm=>ask (Nat.ble nm 1000000000) (ask (Nat.ble (Nat.mul nm i.bytes) 140737488355328) (ask (Nat.ble fl g) (cellsK h g fun bt opn ro cs=>ife ro false (ask (Nat.beq bt e) (takeK cs (Nat.mul n i.size) fun olds=>lenK olds fun ol=>ask (Nat.beq ol (Nat.mul n i.size)) (catK olds xs fun cs=>killNew h g (.cells e true false cs) fun j h=>k (.slx j 0 nm i.size) h)))))))=true:=hk
   rw[natK_eq,Nat.add_eq] at hk
   obtain⟨b1,hk⟩:=ask_ok hk
   obtain⟨b2,hk⟩:=ask_ok hk
   have b1:=ble_le b1
   have b2:(n+m) * i.bytes≤140737488355328:=ble_le b2
   have hml:n+m≤maxLen:=by simp only[maxLen]; omega
   obtain⟨hfl,hk⟩:=ask_ok hk
   obtain⟨bt,opn,ro,cs,hb,hk⟩:=cellsK_ok hk
   rcases ife_ok hk with ⟨_,hk⟩|⟨hro,hk⟩
   ·cases hk
   obtain⟨hbt,hk⟩:=ask_ok hk
   have hbt:=Nat.eq_of_beq_eq_true hbt
   subst hbt
   rw[takeK_eq,lenK_eq] at hk
   obtain⟨hol,hk⟩:=ask_ok hk
   have hol:(cs.take (n * i.size)).length=n * i.size:=Nat.eq_of_beq_eq_true hol
   replace hk:catK (cs.take (n * i.size)) xs (fun cs=>killNew h g (.cells bt true false cs) fun j h=>k (.slx j 0 (n+m) i.size) h)=true:=hk
   rw[catK_eq] at hk
   obtain⟨hn,hk⟩:=killNew_ok hk
   refine⟨_,_,hk,fun S w0 r w x1 x2 hR hx1 hx2=>?_⟩
   obtain⟨us,hus,hsrc⟩:=hS S w0 r w x2 hR hx2
   obtain⟨p,hp,q1,q2,q3,rfl⟩:=real_slx hx1
   simp only[Nat.zero_add,Nat.sub_zero] at q2 q3 ⊢
   obtain⟨os,hos,hosrc⟩:=src_row (P:=P) hR hp hb (o:=0) (z:=i.size) (n:=n) (by rw[List.drop_zero]; exact hol) (p.2 / i.size)
   rw[List.drop_zero] at hos
   obtain⟨c,fz,us',e1,e2,e3,e4,e5,e6,e7⟩:=hR.at hp hb
   have hos2:os=c.toList.take (n * i.size):=by
    have:=reals_take (n * i.size) e3
    rw[hos] at this
    cases this
    rw[e4,List.take_take]
    congr 1
    have:min (n * i.size) cs.length=n * i.size:=by rw[←List.length_take]; exact hol
    omega
   have hxl:=hsrc.len
   have hol2:os.length=n * i.size:=hosrc.len
   have hcs:c.toList.length=p.2:=by simpa using e2
   have hadd:(n+m) * i.size=n * i.size+m * i.size:=Nat.add_mul _ _ _
   by_cases hfit:n+m≤p.2 / i.size
   ·have hfz:(n+m) * i.size≤p.2:=(Nat.le_div_iff_mul_le q1).1 hfit
    obtain⟨w',hst,hh,hkp⟩:=run_stores P p.1 (n * i.size) bt fz us 0 c w e1 (by omega) (ones_real hones hus) (fun j hj q=>by rcases e7 hro with c7|c7 <;> omega)
    have hr:=run_fit P (ty:=ty) hd hu hi ⟨p.1,0,none⟩ n (p.2 / i.size) hsrc hfit (by rw[addr_add,Nat.zero_add]; exact hst)
    have hx:=upd_ext hR (p.1,p.2)
    refine⟨upd r h.next (p.1,p.2),w',_,hx,hR.move hn (ble_le hfl) hp hb hkp (.inl rfl) ⟨_,fz,os++us,hh,?_,reals_mono hx _ _ (reals_app hos hus),?_,?_,fun q=>(by cases q),fun _=>e7 hro⟩,?_,hr⟩
    ·simp; omega
    ·rw[hos2]
     have l1:(cs.take (n * i.size)++xs).length=n * i.size+us.length:=by rw[List.length_append,hol,reals_len hus]
     rw[l1]
     simp only[Nat.add_zero]
     rw[List.take_append,List.take_append,List.take_take]
     have l2:(c.toList.take (n * i.size)).length=n * i.size:=by rw[←hos2]; exact hol2
     rw[l2]
     have l3:min (n * i.size+us.length) (n * i.size)=n * i.size:=by omega
     have l4:n * i.size+us.length - n * i.size=us.length:=by omega
     rw[l3,l4]
     simp
    ·show(cs.take (n * i.size)++xs).length≤p.2
     rw[List.length_append,hol,←reals_len hus]
     omega
    ·simp only[real,upd_same,Option.bind_some,Nat.zero_add,Nat.sub_zero]
     rw[if_pos ⟨hpos,hfz,q3⟩]
   ·have hge:=grownCap_ge w (n+m) (p.2 / i.size) bt
    have hle:=grownCap_le_maxLen w (n+m) (p.2 / i.size) bt hml
    have hr:=run_new P (ty:=ty) hd hu hi hz _ n (p.2 / i.size) hsrc hosrc (by omega) hml b2
    rw[←List.append_assoc] at hr
    have hx:=upd_ext hR (w.heap.size,grownCap w (n+m) (p.2 / i.size) bt * i.size)
    have hmul:(n+m) * i.size≤grownCap w (n+m) (p.2 / i.size) bt * i.size:=Nat.mul_le_mul_right _ hge
    have hsz:os.length+us.length+(Builtin.zeroCells z.cells (grownCap w (n+m) (p.2 / i.size) bt - (n+m))).size=grownCap w (n+m) (p.2 / i.size) bt * i.size:=by
     rw[zeroCells_len,hzs,hol2,hxl,←Nat.add_mul,←Nat.add_mul]; congr 1; omega
    refine⟨_,_,_,hx,hR.move hn (ble_le hfl) hp hb (((Kept.drew w).trans0 (Kept.alloc w.drew _)).mono fun _ c=>c.elim) (.inr (Nat.le_refl _)) ⟨_,(0,0),os++us,heap_alloc_new w.drew _,?_,reals_mono hx _ _ (reals_app hos hus),?_,?_,fun q=>(by cases q),fun _=> .inl rfl⟩,?_,hr⟩
    ·simp; omega
    ·have l1:(cs.take (n * i.size)++xs).length=(os++us).length:=by rw[List.length_append,hol,←reals_len hus,List.length_append,hol2]
     rw[l1]
     show os++us=List.take (os++us).length ((os++us)++_)
     rw[List.take_left']
     rfl
    ·show(cs.take (n * i.size)++xs).length≤_
     rw[List.length_append,hol,←reals_len hus]
     omega
    ·have hdv:grownCap w (n+m) (p.2 / i.size) bt * i.size / i.size=grownCap w (n+m) (p.2 / i.size) bt:=Nat.mul_div_cancel _ hpos
     simp only[real,upd_same,Option.bind_some,Nat.zero_add,Nat.sub_zero,hdv]
     rw[if_pos ⟨hpos,hmul,hle⟩]
 | _=>cases hk6
end
end Go.Proofs.YtbhbdeelpopgoaaGreatDoor.E

namespace Go.Proofs.YtbhbdeelpopgoaaGreatDoor.E
open Go Go.RowKit H
section
variable {P : Program} {fl : Nat} {env : Tr AV} {h : Hp} {ty : TypeId}
theorem one_eo{op:Op}{x:Operand}{v z:AV}{h':Hp}(h2:Ev fl env h v fun f=>f.ev x)
  (hz : ∀S w0 r w u,Rel S w0 fl r h w→real r v=some u→∃r' w' y,Ext r r'∧Rel S w0 fl r' h' w'∧OutV r' z y∧∀(ρ:Operand→Value) dst pos af g,ρ x=u→(execOp ρ {dst:=dst,op:=op,type:=ty,pos:=pos,after:=af,guard:=g}).run P w = .ok y w'):Eo P fl op ty env h z h':=by
 intro S w0 r f w hf hR
 obtain⟨u,hu,hx⟩:=h2 S w0 r f w hf hR
 obtain⟨r',w',y,a1,a2,a3,a4⟩:=hz S w0 r w u hR hu
 exact⟨r',w',y,a1,a2,a3,fun dst pos af g a ha=>a4 _ dst pos af g (ha.eval hx)⟩
theorem foldl_push: ∀(l:List Nat) (b:List UInt8),Bytes l→(l.map (fun n:Nat=>(n:Int))).foldl (fun r n=>r.push (UInt8.ofNat n.toNat)) (B b)=B (b++textOf l)
 | [],b,_=>by simp[textOf]
 | n::l,b,hb=>by
  obtain⟨h1,h2⟩:=bytes_cons.1 hb
  simp only[List.map_cons,List.foldl_cons]
  have e:(B b).push (UInt8.ofNat (n:Int).toNat)=B (b++[UInt8.ofNat n]):=by
   apply ByteArray.ext
   apply Array.ext'
   simp[ByteArray.push]
  rw[e,foldl_push l _ h2]
  simp[textOf]
noncomputable def rowStr(i o n:Nat)(h:Hp)(k:AV→Bool):Bool:=cellsK h i fun _ _ _ cs=>dropK cs o fun l=>takeK l n fun l=>lenK l fun m=>ask (Nat.beq m n) (intsK l fun s=>k (.str s))
theorem rowStr_ok{i o n:Nat}{k:AV→Bool}(hk:rowStr i o n h k=true): ∃s,k (.str s)=true∧Bytes s∧∀S w0 r w p,Rel S w0 fl r h w→r i=some p→∀c,(Conv.bytesToString (.slice (some ⟨p.1,o,none⟩) n c)).run P w = .ok (.string (B (textOf s))) w:=by
 obtain⟨t,opn,ro,cs,hb,hk⟩:=cellsK_ok hk
 rw[dropK_eq,takeK_eq,lenK_eq] at hk
 obtain⟨hl,hk⟩:=ask_ok hk
 have hl:=Nat.eq_of_beq_eq_true hl
 obtain⟨s,hs,hbs,hk⟩:=intsK_ok hk
 refine⟨s,hk,hbs,fun S w0 r w p hR hp c=>?_⟩
 obtain⟨us,hus,hsrc⟩:=src_row (P:=P) hR hp hb (o:=o) (n:=n) (z:=1) (by rw[Nat.mul_one]; exact hl) c
 rw[Nat.mul_one,hs] at hus
 have hu:=reals_ints hbs hus
 have hc:=hsrc.cells n (Nat.le_refl _) w rfl
 have e2:us.take (n * 1)=us:=List.take_of_length_le (by rw[hsrc.len]; exact Nat.le_refl _)
 rw[e2] at hc
 simp only[Builtin.firstCells,Nat.mul_one] at hc
 have e3:us=(s.map (fun n:Nat=>(n:Int))).map (Value.int .u8):=by
  have:=ints_real (r:=r) hbs
  rw[hus] at this
  have e4 : ∀(l:List Nat) (us:List Value),reals r (ints l)=some us→us=(l.map (fun n:Nat=>(n:Int))).map (Value.int .u8):=by
   intro l
   induction l with
   | nil=>intro us h; rw[show ints []=[] from rfl,reals_nil] at h; cases h; rfl
   | cons a l ih=>
    intro us h
    obtain⟨u,t,hu,ht,rfl⟩:=reals_cons.1 h
    rw[ih t ht]
    have:=real_int hu
    subst this
    rfl
  exact e4 s us hus
 rw[e3] at hc
 have:=run_bytesToString w ⟨p.1,o,none⟩ n c _ hc
 rw[this]
 have e5:=foldl_push s [] hbs
 rw[show(ByteArray.empty)=B [] from rfl,e5]
 simp
theorem Rel.touch{S:Nat→Prop}{w0:World}{r:Ren}{w w':World}(H:Rel S w0 fl r h w){i:Nat}{c:Blk}{p:Nat×Nat}(hi:fl≤i)(hr:r i=some p)(hc:h.at i=some c)(k:Kept (fun k=>k=p.1) w w')(hB:BRel r p w' c):Rel S w0 fl r h w':=
 ⟨fun j d hj hd=>by
   by_cases e:i=j
   ·subst e
    rw[hc] at hd; cases hd
    exact⟨p,hr,hB⟩
   ·obtain⟨q,hq,hb⟩:=H.live j d hj hd
    exact⟨q,hq,hb.of (k.block _ (H.dom j q hq) fun x=>e (H.inj i j c d p q (H.lt hr) hj hc hd hr hq x.symm))⟩,
  H.inj,H.fresh,H.lim,H.glob,H.may,fun j q hq=>Nat.lt_of_lt_of_le (H.dom j q hq) k.size,H.kept.trans k fun x hx=>hx▸H.may i p hi hr,H.base,H.hol,H.full,H.top⟩
noncomputable def convRow(P:Program)(fl:Nat)(s t e:TypeId)(i:Nat)(h:Hp)(k:Bool):Bool:=tyK P s fun ds=>isSliceT ds fun _=>ask (Nat.beq s t) (tyK P e fun de=>isIntT de fun ik=>ask (kEq ik .u8) (ask (Nat.ble fl i) (cellsK h i fun _ _ _ _=>k)))
theorem convRow_ok{s t e:TypeId}{i:Nat}{k:Bool}(hd:P.underlying t=some (.slice e))(hk:convRow P fl s t e i h k=true):k=true∧∀S w0 r w p o n c,Rel S w0 fl r h w→r i=some p→∃w',(convert s t (.slice (some ⟨p.1,o,none⟩) n c)).run P w = .ok (.slice (some ⟨p.1,o,none⟩) n c) w'∧Rel S w0 fl r h w':=by
 obtain⟨ds,hs,hk1⟩:=tyK_ok hk
 obtain⟨e2,rfl,hk2⟩:=isSliceT_ok hk1
 obtain⟨hst,hk3⟩:=ask_ok hk2
 have hst:=Nat.eq_of_beq_eq_true hst
 subst hst
 obtain⟨de,hde,hk4⟩:=tyK_ok hk3
 obtain⟨ik,rfl,hk5⟩:=isIntT_ok hk4
 obtain⟨hi8,hk6⟩:=ask_ok hk5
 have:=kEq_ok hi8; subst this
 obtain⟨hfl,hk7⟩:=ask_ok hk6
 have hfl:=ble_le hfl
 obtain⟨bt,op,ro,cs,hb,hk⟩:=cellsK_ok hk7
 refine⟨hk,fun S w0 r w p o n c hR hr=>?_⟩
 obtain⟨c0,fz,us,h1,h2,h3,h4,h5,h6,h7⟩:=hR.at hr hb
 have hlt:=lt_of_at h1
 have hfr:(w.freeze ⟨p.1,c0.size,none⟩ 1).heap[p.1]?=some (.cells c0 bt (if fz.1 == fz.2 then (c0.size,c0.size+1) else (min fz.1 c0.size,max fz.2 (c0.size+1)))):=by
  simp only[World.freeze,if_neg (show ¬(1=0) by omega)]
  rw[Array.getElem?_modify,if_pos rfl,h1]
  obtain⟨lo,hi⟩:=fz
  rfl
 refine⟨w.freeze ⟨p.1,c0.size,none⟩ 1,?_,hR.touch hfl hr hb ⟨rfl,rfl,rfl,by simp[World.freeze],fun j hj hn=>?_⟩ ⟨c0,_,us,hfr,h2,h3,h4,h5,h6,fun hro=>?_⟩⟩
 ·have e2e:e2=e:=by
   rw[hs] at hd
   injection hd with hd
   injection hd
  subst e2e
  simp[convert,run_underlying hs,run_underlying hde,markStringish,World.shape?,h1]
 ·have hn:j≠p.1:=hn
  simp[World.freeze,Array.getElem?_modify,Ne.symm hn]
 ·rcases h7 hro with q|q
  ·simp[q,h2]
  ·right
   split
   ·simp[h2]
   ·simp[h2]; omega
noncomputable def hConv(P:Program)(fl:Nat)(s t:TypeId)(x:Operand)(h:Hp)(env:Tr AV)(k:AV→Hp→Bool):Bool:=evK fl h env x fun v=>tyK P t fun d=>match d with
 | .slice e=>(match v with
  | .sl i o n c=>convRow P fl s t e i h (k (.sl i o n c) h)
  | .slx i o n z=>convRow P fl s t e i h (k (.slx i o n z) h)
  | v=>tyK P s fun _=>qStr v fun l=>tyK P e fun de=>isIntT de fun i=>ask (kEq i .u8) (ask (Nat.ble (strBin.lenN l) 1000000000) (srcK.bytesA l fun cs=>newH h (.cells e true false cs) fun j h=>lenK cs fun n=>k (.slx j 0 n 1) h)))
 | .string=>tyK P s fun ds=>(match v with
  | .nils=>isSliceT ds fun e=>tyK P e fun de=>isIntT de fun i=>ask (kEq i .u8) (k (.str []) h)
  | .sl i o n _=>isSliceT ds fun e=>tyK P e fun de=>isIntT de fun j=>ask (kEq j .u8) (rowStr i o n h fun v=>k v h)
  | .slx i o n _=>isSliceT ds fun e=>tyK P e fun de=>isIntT de fun j=>ask (kEq j .u8) (rowStr i o n h fun v=>k v h)
  | v=>hConv0 P fl s t v fun v=>k v h)
 | _=>hConv0 P fl s t v fun v=>k v h
theorem freeze_same(w:World)(g n:Nat)(o:Obj)(w1:World)(h1:w1 = {w with heap:=w.heap.push o})(hg:g=w.heap.size)(c:Array Value)(e:TypeId)(ho:o = .cells c e (0,0))(hn:n=c.size):
  (w1.freeze {block:=g,off:=n} 1) = {w with heap:=w.heap.push (.cells c e (n,n+1))}:=by
 subst h1 hg ho
 simp only[World.freeze,if_neg (show ¬(1=0) by omega)]
 congr 1
 apply Array.ext
 ·simp
 ·intro i h1 h2
  simp only[Array.size_push,Array.size_modify] at h1 h2
  rw[Array.getElem_modify]
  by_cases hi:i=w.heap.size
  ·subst hi
   simp
  ·simp[Ne.symm hi,Array.getElem_push,show i < w.heap.size by omega]
theorem run_stringToBytes(e:TypeId)(s:List UInt8)(w:World):(Conv.stringToBytes e (B s)).run P w = .ok (.slice (some ⟨w.heap.size,0,none⟩) s.length (grownCap w s.length 0 e))
  {w.drew with heap:=w.heap.push (.cells (bv s++List.replicate (grownCap w s.length 0 e - s.length) (Value.int .u8 0)).toArray e (grownCap w s.length 0 e,grownCap w s.length 0 e+1))}:=by
 have hge:=grownCap_ge w s.length 0 e
 have hc:(B s).data.map (fun b=>Value.int .u8 (b.toNat:Int))++Array.replicate (grownCap w s.length 0 e - s.length) (Value.int .u8 0)=(bv s++List.replicate (grownCap w s.length 0 e - s.length) (Value.int .u8 0)).toArray:=by
  apply Array.ext'
  simp[bv]
 have hsz:(bv s++List.replicate (grownCap w s.length 0 e - s.length) (Value.int .u8 0)).toArray.size=grownCap w s.length 0 e:=by simp[bv]; omega
 have hf:=freeze_same w.drew w.heap.size (grownCap w s.length 0 e) _ {w.drew with heap:=w.heap.push (.cells (bv s++List.replicate (grownCap w s.length 0 e - s.length) (Value.int .u8 0)).toArray e)} rfl rfl _ e rfl hsz.symm
 have hcap:(Question.appendCap s.length 0 e).cut (w.tape w.drawn (.appendCap s.length 0 e))=grownCap w s.length 0 e:=rfl
 simp only[Conv.stringToBytes,Sem.run_bind,B_size,choose,Sem.run,Question.forced,Bool.false_eq_true,if_false,Result.andThen_ok,hcap,hc,newRow,newObj,Sem.run_pure,markStringish,shape,World.shape?]
 simp only[Array.getElem?_push_size,hsz,freeze,Sem.run]
 exact congrArg (Result.ok (Value.slice (some {block:=w.heap.size,off:=0}) s.length (grownCap w s.length 0 e))) hf
theorem ints_len(l:List Nat):(ints l).length=l.length:=by simp[ints]
theorem hConv_ok{s t:TypeId}{x:Operand}{k:AV→Hp→Bool}(hk:hConv P fl s t x h env k=true): ∃v h',k v h'=true∧Eo P fl (.convert s t x) ty env h v h':=by
 obtain⟨v,hk,h2⟩:=evK_ok hk
 obtain⟨d,hd,hk⟩:=tyK_ok hk
 have plain:hConv0 P fl s t v (fun v=>k v h)=true→∃v h',k v h'=true∧Eo P fl (.convert s t x) ty env h v h':=fun hk=>by
  obtain⟨z,hz,hy⟩:=hConv0_ok (ty:=ty) h2 hk
  exact⟨z,h,hz,hy.eo⟩
 cases d with
 | slice e=>
  have row : ∀{i o n c},v = .sl i o n c→convRow P fl s t e i h (k (.sl i o n c) h)=true→∃v h',k v h'=true∧Eo P fl (.convert s t x) ty env h v h':=by
   rintro i o n c rfl hk
   obtain⟨hk,hr⟩:=convRow_ok hd hk
   refine⟨_,_,hk,one_eo h2 fun S w0 r w u hR hu=>?_⟩
   obtain⟨p,hp,rfl⟩:=real_sl hu
   obtain⟨w',hrun,hR'⟩:=hr S w0 r w p o n c hR hp
   exact⟨r,w',.value _,Ext.refl r,hR',.inl ⟨_,rfl,hu⟩,fun ρ dst pos af g e1=>by simp[execOp,e1,hrun]⟩
  have rowx : ∀{i o n z},v = .slx i o n z→convRow P fl s t e i h (k (.slx i o n z) h)=true→∃v h',k v h'=true∧Eo P fl (.convert s t x) ty env h v h':=by
   rintro i o n z rfl hk
   obtain⟨hk,hr⟩:=convRow_ok hd hk
   refine⟨_,_,hk,one_eo h2 fun S w0 r w u hR hu=>?_⟩
   obtain⟨p,hp,_,_,_,rfl⟩:=real_slx hu
   obtain⟨w',hrun,hR'⟩:=hr S w0 r w p o n ((p.2 - o) / z) hR hp
   exact⟨r,w',.value _,Ext.refl r,hR',.inl ⟨_,rfl,hu⟩,fun ρ dst pos af g e1=>by simp[execOp,e1,hrun]⟩
  have rest:(tyK P s fun _=>qStr v fun l=>tyK P e fun de=>isIntT de fun i=>ask (kEq i .u8) (ask (Nat.ble (strBin.lenN l) 1000000000) (srcK.bytesA l fun cs=>newH h (.cells e true false cs) fun j h=>lenK cs fun n=>k (.slx j 0 n 1) h)))=true→∃v h',k v h'=true∧Eo P fl (.convert s t x) ty env h v h':=by
   intro hk
   obtain⟨ds,hs,hk⟩:=tyK_ok hk
   obtain⟨l,rfl,hk⟩:=qStr_ok (x:=v) hk
   obtain⟨de,hde,hk⟩:=tyK_ok hk
   obtain⟨i,rfl,hk1⟩:=isIntT_ok hk
   obtain⟨hi8,hk2⟩:=ask_ok hk1
   have:=kEq_ok hi8; subst this
   obtain⟨hln,hk3⟩:=ask_ok hk2
   rw[lenN_eq] at hln
   have hln:=ble_le hln
   rw[bytesA_eq] at hk3
   obtain⟨hn,hk4⟩:=newH_ok hk3
   rw[lenK_eq,ints_len] at hk4
   refine⟨_,_,hk4,one_eo h2 fun S w0 r w u hR hu=>?_⟩
   obtain⟨hb,rfl⟩:=real_str hu
   have hge:=grownCap_ge w l.length 0 e
   have hle:=grownCap_le_maxLen w l.length 0 e (by simp only[maxLen]; omega)
   have hx:=upd_ext hR (w.heap.size,grownCap w l.length 0 e)
   have hr:=run_stringToBytes (P:=P) e (textOf l) w
   rw[text_len] at hr
   refine⟨_,_,.value (.slice (some ⟨w.heap.size,0,none⟩) l.length (grownCap w l.length 0 e)),hx,hR.new hn (w':={w.drew with heap:=w.heap.push (.cells (bv (textOf l)++List.replicate (grownCap w l.length 0 e - l.length) (Value.int .u8 0)).toArray e (grownCap w l.length 0 e,grownCap w l.length 0 e+1))}) ⟨rfl,rfl,rfl,by simp,fun j hj _=>by simp[Array.getElem?_push,show j≠w.heap.size by omega]⟩ (Nat.le_refl _) ⟨(bv (textOf l)++List.replicate (grownCap w l.length 0 e - l.length) (Value.int .u8 0)).toArray,(grownCap w l.length 0 e,grownCap w l.length 0 e+1),_,by simp,?_,ints_real hb,?_,?_,fun c=>(by cases c),fun _=> .inr (Nat.le_refl _)⟩,.inl ⟨_,rfl,?_⟩,fun ρ dst pos af g e1=>?_⟩
   ·simp[bv,text_len]; omega
   ·rw[ints_len]
    have:(bv (textOf l)).length=l.length:=by simp[bv,text_len]
    rw[←this]; simp
   ·rw[ints_len]; exact hge
   ·simp only[real,upd_same,Option.bind_some,Nat.zero_add,Nat.mul_one,Nat.sub_zero,Nat.div_one]
    rw[if_pos ⟨by omega,hge,hle⟩]
   ·simp[execOp,e1,convert,run_underlying hs,run_underlying hd,run_underlying hde,hr]
  cases v with
  | sl i o n c=>exact row rfl hk
  | slx i o n z=>exact rowx rfl hk
  | _=>exact rest hk
 | string=>
  obtain⟨ds,hs,hk⟩:=tyK_ok hk
  cases v with
  | nils=>
   obtain⟨e,rfl,hk1⟩:=isSliceT_ok hk
   obtain⟨de,hde,hk⟩:=tyK_ok hk1
   obtain⟨i,rfl,hk1⟩:=isIntT_ok hk
   obtain⟨hi8,hk2⟩:=ask_ok hk1
   have:=kEq_ok hi8; subst this
   refine⟨_,_,hk2,Yo.eo (one_ok h2 fun S w0 r w u hR hu=>⟨_,str_real (by rfl),fun ρ dst pos af g e1=>?_⟩)⟩
   cases hu
   simp[execOp,e1,convert,run_underlying hs,run_underlying hd,run_underlying hde,Conv.bytesToString]
   rfl
  | sl i o n c=>
   obtain⟨e,rfl,hk1⟩:=isSliceT_ok hk
   obtain⟨de,hde,hk⟩:=tyK_ok hk1
   obtain⟨j,rfl,hk1⟩:=isIntT_ok hk
   obtain⟨hi8,hk2⟩:=ask_ok hk1
   have:=kEq_ok hi8; subst this
   obtain⟨l,hk,hbl,hl⟩:=rowStr_ok (P:=P) (fl:=fl) hk2
   refine⟨_,_,hk,Yo.eo (one_ok h2 fun S w0 r w u hR hu=>⟨_,str_real hbl,fun ρ dst pos af g e1=>?_⟩)⟩
   obtain⟨p,hp,rfl⟩:=real_sl hu
   have hr:=hl S w0 r w p hR hp c
   simp[execOp,e1,convert,run_underlying hs,run_underlying hd,run_underlying hde,hr]
  | slx i o n c=>
   obtain⟨e,rfl,hk1⟩:=isSliceT_ok hk
   obtain⟨de,hde,hk⟩:=tyK_ok hk1
   obtain⟨j,rfl,hk1⟩:=isIntT_ok hk
   obtain⟨hi8,hk2⟩:=ask_ok hk1
   have:=kEq_ok hi8; subst this
   obtain⟨l,hk,hbl,hl⟩:=rowStr_ok (P:=P) (fl:=fl) hk2
   refine⟨_,_,hk,Yo.eo (one_ok h2 fun S w0 r w u hR hu=>⟨_,str_real hbl,fun ρ dst pos af g e1=>?_⟩)⟩
   obtain⟨p,hp,_,_,_,rfl⟩:=real_slx hu
   have hr:=fun cap=>hl S w0 r w p hR hp cap
   simp[execOp,e1,convert,run_underlying hs,run_underlying hd,run_underlying hde,hr]
  | _=>exact plain hk
 | _=>exact plain hk
end
end Go.Proofs.YtbhbdeelpopgoaaGreatDoor.E

namespace Go.Proofs.YtbhbdeelpopgoaaGreatDoor.E
open Go Go.RowKit H
section
variable {P : Program} {fl : Nat} {env : Tr AV} {h : Hp} {ty : TypeId}
def Bo(P:Program)(fl:Nat)(b:Builtin)(ts:Array TypeId)(ty:TypeId)(vs:List AV)(h:Hp)(v:AV)(h':Hp):Prop:=∀S w0 r w xs cs,Rel S w0 fl r h w→reals r vs=some xs→∃r' w' x,Ext r r'∧Rel S w0 fl r' h' w'∧real r' v=some x∧(builtin b ts ty cs xs.toArray).run P w = .ok (.value x) w'
def BoP(P:Program)(fl:Nat)(b:Builtin)(ts:Array TypeId)(ty:TypeId)(vs:List AV)(h:Hp)(v:AV):Prop:=∀S w0 r w xs cs,Rel S w0 fl r h w→reals r vs=some xs→∃x,real r v=some x∧(builtin b ts ty cs xs.toArray).run P w = .ok (.value x) w
theorem Bo.pure{b:Builtin}{ts:Array TypeId}{vs:List AV}{v:AV}(hz : ∀S w0 r w xs cs,Rel S w0 fl r h w→reals r vs=some xs→∃x,real r v=some x∧(builtin b ts ty cs xs.toArray).run P w = .ok (.value x) w):Bo P fl b ts ty vs h v h:=fun S w0 r w xs cs hR hxs=>by
 obtain⟨x,hx,hr⟩:=hz S w0 r w xs cs hR hxs
 exact⟨r,w,x,Ext.refl r,hR,hx,hr⟩
noncomputable def one1(vs:List AV)(k:AV→Bool):Bool:=match vs with|[v]=>k v|_=>false
theorem one1_ok{vs:List AV}{k:AV→Bool}(h:one1 vs k=true): ∃v,vs=[v]∧k v=true:=by
 match vs,h with
 | [v],h=>exact⟨v,rfl,h⟩
noncomputable def two2(vs:List AV)(k:AV→AV→Bool):Bool:=match vs with|[v,w]=>k v w|_=>false
theorem two2_ok{vs:List AV}{k:AV→AV→Bool}(h:two2 vs k=true): ∃v w,vs=[v,w]∧k v w=true:=by
 match vs,h with
 | [v,w],h=>exact⟨v,w,rfl,h⟩
theorem reals1{r:Ren}{v:AV}{xs:List Value}(h:reals r [v]=some xs): ∃x,real r v=some x∧xs=[x]:=by
 obtain⟨u,t,hu,ht,rfl⟩:=reals_cons.1 h
 rw[reals_nil] at ht; cases ht
 exact⟨u,hu,rfl⟩
theorem reals2{r:Ren}{v w:AV}{xs:List Value}(h:reals r [v,w]=some xs): ∃x y,real r v=some x∧real r w=some y∧xs=[x,y]:=by
 obtain⟨u,t,hu,ht,rfl⟩:=reals_cons.1 h
 obtain⟨y,hy,rfl⟩:=reals1 ht
 exact⟨u,y,hu,hy,rfl⟩
noncomputable def tsK(ts:Array TypeId)(i:Nat)(k:TypeId→Bool):Bool:=nthK ts.toList i k
theorem tsK_ok{ts:Array TypeId}{i:Nat}{k:TypeId→Bool}(h:tsK ts i k=true): ∃t,ts[i]?=some t∧k t=true:=by
 obtain⟨t,ht,hk⟩:=nthK_ok h
 exact⟨t,by simpa using ht,hk⟩
noncomputable def nK(n:Nat)(k:AV→Bool):Bool:=natK n fun n=>k (.int .i64 (.ofNat n))
theorem nK_eq(n:Nat)(k:AV→Bool):nK n k=k (.int .i64 (n:Int)):=natK_eq n _
noncomputable def mapK(h:Hp)(i:Nat)(k:List AV→List AV→List Nat→Nat→Bool):Bool:=atK h i fun b=>Blk.rec (motive:=fun _=>Bool) (fun _ _ _ _=>false) (fun a b c d=>k a b c d) (fun _ _=>false) (fun _ _ _ _=>false) false (fun _ _=>false) (fun _=>false) b
theorem mapK_ok{i:Nat}{k:List AV→List AV→List Nat→Nat→Bool}(hk:mapK h i k=true): ∃a b c d,h.at i=some (.mp a b c d)∧k a b c d=true:=by
 obtain⟨b,hb,hk⟩:=atK_ok hk
 cases b with
 | mp a b c d=>exact⟨a,b,c,d,hb,hk⟩
 | _=>cases hk
noncomputable def hLen(P:Program)(ts:Array TypeId)(vs:List AV)(h:Hp)(k:AV→Bool):Bool:=one1 vs fun v=>tsK ts 0 fun t=>tyK P t fun d=>match v with
 | .str s=>isStrT d (lenK s fun n=>nK n k)
 | .nils=>isSliceT d fun _=>nK 0 k
 | .sl _ _ n _=>isSliceT d fun _=>nK n k
 | .slx _ _ n _=>isSliceT d fun _=>nK n k
 | .sly _ _ _ _=>isSliceT d fun _=>nK 0 k
 | .nilm=>isMapT d (nK 0 k)
 | .map i=>isMapT d (mapK h i fun ks _ _ _=>lenK ks fun n=>nK n k)
 | .agg _=>isArrT d fun n _=>nK n k
 | .ptr _ _=>isPtrT d fun e=>tyK P e fun de=>isArrT de fun n _=>nK n k
 | .opq t _ c _ _=>isSliceT d fun _=>ask (Nat.beq t 1) (ife (fullB c) (natK (cntB c) fun n=>nK n k) (k (.opq 5 0 0 0 0)))
 | _=>false
theorem hLen_ok{ts:Array TypeId}{vs:List AV}{k:AV→Bool}(hk:hLen P ts vs h k=true): ∃v,k v=true∧BoP P fl .len ts ty vs h v:=by
 obtain⟨v,rfl,hk⟩:=one1_ok hk
 obtain⟨t,ht,hk⟩:=tsK_ok hk
 obtain⟨d,hd,hk⟩:=tyK_ok hk
 have fin : ∀n:Nat,k (.int .i64 (n:Int))=true→(∀S w0 r w x,Rel S w0 fl r h w→real r v=some x→(Builtin.len_ ts ty #[x]).run P w = .ok (.int .i64 (n:Int)) w)→∃z,k z=true∧BoP P fl .len ts ty [v] h z:=fun n hn hh=>⟨_,hn,fun S w0 r w xs cs hR hxs=>by
  obtain⟨x,hx,rfl⟩:=reals1 hxs
  have:=hh S w0 r w x hR hx
  exact⟨_,rfl,by simp[builtin,this]⟩⟩
 cases v with
 | str s=>
  obtain⟨rfl,hk1⟩:=isStrT_ok hk
  rw[lenK_eq,nK_eq] at hk1
  refine fin _ hk1 fun S w0 r w x _ hx=>?_
  obtain⟨_,rfl⟩:=real_str hx
  simp[Builtin.len_,ht,run_underlying hd,goInt,B_size,text_len]
 | nils=>
  obtain⟨e,rfl,hk1⟩:=isSliceT_ok hk
  rw[nK_eq] at hk1
  refine fin _ hk1 fun S w0 r w x _ hx=>?_
  cases hx
  simp[Builtin.len_,ht,run_underlying hd,goInt]
 | sl i o n c=>
  obtain⟨e,rfl,hk1⟩:=isSliceT_ok hk
  rw[nK_eq] at hk1
  refine fin _ hk1 fun S w0 r w x _ hx=>?_
  obtain⟨_,_,rfl⟩:=real_sl hx
  simp[Builtin.len_,ht,run_underlying hd,goInt]
 | slx i o n c=>
  obtain⟨e,rfl,hk1⟩:=isSliceT_ok hk
  rw[nK_eq] at hk1
  refine fin _ hk1 fun S w0 r w x _ hx=>?_
  obtain⟨_,_,_,_,_,rfl⟩:=real_slx hx
  simp[Builtin.len_,ht,run_underlying hd,goInt]
 | sly i o n c=>
  obtain⟨e,rfl,hk1⟩:=isSliceT_ok hk
  rw[nK_eq] at hk1
  refine fin _ hk1 fun S w0 r w x _ hx=>?_
  obtain⟨_,_,rfl⟩:=real_sly hx
  simp[Builtin.len_,ht,run_underlying hd,goInt]
 | nilm=>
  obtain⟨⟨a,b,rfl⟩,hk1⟩:=isMapT_ok hk
  rw[nK_eq] at hk1
  refine fin _ hk1 fun S w0 r w x _ hx=>?_
  cases hx
  simp[Builtin.len_,ht,run_underlying hd,goInt]
 | map i=>
  obtain⟨⟨a,b,rfl⟩,hk1⟩:=isMapT_ok hk
  obtain⟨ks,vs,bs,ck0,hb,hk2⟩:=mapK_ok hk1
  rw[lenK_eq,nK_eq] at hk2
  refine fin _ hk2 fun S w0 r w x hR hx=>?_
  obtain⟨p,hp,rfl⟩:=real_map hx
  obtain⟨en,ck,h1,h2,_⟩:=hR.at hp hb
  have hl:=reals_len h2
  simp only[List.length_map,Array.length_toList] at hl
  simp[Builtin.len_,ht,run_underlying hd,getObj,Sem.run,h1,goInt,hl]
 | agg l=>
  obtain⟨n,e,rfl,hk1⟩:=isArrT_ok hk
  rw[nK_eq] at hk1
  refine fin _ hk1 fun S w0 r w x _ hx=>?_
  simp[Builtin.len_,ht,run_underlying hd,goInt]
 | opq t i s o z=>
  obtain⟨e,rfl,hk1⟩:=isSliceT_ok hk
  obtain⟨h1,hk1⟩:=ask_ok hk1
  have e1:=Nat.eq_of_beq_eq_true h1; subst e1
  rcases ife_ok hk1 with ⟨hf,hk1⟩|⟨_,hk1⟩
  ·rw[natK_eq,nK_eq] at hk1
   refine fin _ hk1 fun S w0 r w x _ hx=>?_
   obtain⟨p,hp,_,_,_,hcd,rfl⟩:=real_opq1 hx
   have hl:=full_len hf hcd
   simp[Builtin.len_,ht,run_underlying hd,goInt,hl]
  refine⟨_,hk1,fun S w0 r w xs cs hR hxs=>?_⟩
  obtain⟨x,hx,rfl⟩:=reals1 hxs
  obtain⟨p,hp,_,_,_,_,rfl⟩:=real_opq1 hx
  exact⟨.int .i64 (Int.ofNat r.sg.dd.length),by simp only[real]; rfl,by simp[builtin,Builtin.len_,ht,run_underlying hd,goInt]⟩
 | ptr i o=>
  obtain⟨e,rfl,hk1⟩:=isPtrT_ok hk
  obtain⟨de,hde,hk2⟩:=tyK_ok hk1
  obtain⟨n,e2,rfl,hk3⟩:=isArrT_ok hk2
  rw[nK_eq] at hk3
  refine fin _ hk3 fun S w0 r w x _ hx=>?_
  obtain⟨_,_,rfl⟩:=real_ptr hx
  simp[Builtin.len_,ht,run_underlying hd,run_underlying hde,goInt]
 | _=>cases hk
noncomputable def hCap(P:Program)(ts:Array TypeId)(vs:List AV)(k:AV→Bool):Bool:=one1 vs fun v=>tsK ts 0 fun t=>tyK P t fun d=>match v with
 | .nils=>isSliceT d fun _=>nK 0 k
 | .sl _ _ _ c=>isSliceT d fun _=>nK c k
 | _=>false
theorem hCap_ok{ts:Array TypeId}{vs:List AV}{k:AV→Bool}(hk:hCap P ts vs k=true): ∃v,k v=true∧BoP P fl .cap ts ty vs h v:=by
 obtain⟨v,rfl,hk⟩:=one1_ok hk
 obtain⟨t,ht,hk⟩:=tsK_ok hk
 obtain⟨d,hd,hk⟩:=tyK_ok hk
 have fin : ∀n:Nat,k (.int .i64 (n:Int))=true→(∀S w0 r w x,Rel S w0 fl r h w→real r v=some x→(Builtin.cap_ ts ty #[x]).run P w = .ok (.int .i64 (n:Int)) w)→∃z,k z=true∧BoP P fl .cap ts ty [v] h z:=fun n hn hh=>⟨_,hn,fun S w0 r w xs cs hR hxs=>by
  obtain⟨x,hx,rfl⟩:=reals1 hxs
  have:=hh S w0 r w x hR hx
  exact⟨_,rfl,by simp[builtin,this]⟩⟩
 cases v with
 | nils=>
  obtain⟨e,rfl,hk1⟩:=isSliceT_ok hk
  rw[nK_eq] at hk1
  refine fin _ hk1 fun S w0 r w x _ hx=>?_
  cases hx
  simp[Builtin.cap_,ht,run_underlying hd,goInt]
 | sl i o n c=>
  obtain⟨e,rfl,hk1⟩:=isSliceT_ok hk
  rw[nK_eq] at hk1
  refine fin _ hk1 fun S w0 r w x _ hx=>?_
  obtain⟨_,_,rfl⟩:=real_sl hx
  simp[Builtin.cap_,ht,run_underlying hd,goInt]
 | _=>cases hk
noncomputable def minMax(mx:Bool)(vs:List AV):IntKind→Int→(AV→Bool)→Bool:=List.rec (motive:=fun _=>IntKind→Int→(AV→Bool)→Bool) (fun i a k=>k (.int i a)) (fun v _ ih i a k=>qInt v fun _ b=>ife (ifeV mx (iLt a b) (iLt b a)) (ih i b k) (ih i a k)) vs
theorem minMax_ok(mx:Bool): ∀{vs:List AV} {i:IntKind} {a:Int} {k:AV→Bool},minMax mx vs i a k=true→∃c,k (.int i c)=true∧∀(r:Ren) (xs:List Value) (w:World),reals r vs=some xs→(xs.foldlM (if mx then Builtin.max2 else Builtin.min2) (.int i a)).run P w = .ok (.int i c) w
 | [],i,a,k,hk=>⟨a,hk,fun r xs w hx=>by rw[reals_nil] at hx; cases hx; simp⟩
 | v::vs,i,a,k,hk=>by
  obtain⟨j,b,rfl,hk⟩:=qInt_ok (x:=v) hk
  have key : ∀q:Int,minMax mx vs i q k=true→(∀w:World,((if mx then Builtin.max2 else Builtin.min2) (.int i a) (.int j b)).run P w = .ok (.int i q) w)→∃c,k (.int i c)=true∧∀(r:Ren) (xs:List Value) (w:World),reals r (.int j b::vs)=some xs→(xs.foldlM (if mx then Builtin.max2 else Builtin.min2) (.int i a)).run P w = .ok (.int i c) w:=by
   intro q hq hr
   obtain⟨c,hc,hh⟩:=minMax_ok mx (vs:=vs) hq
   refine⟨c,hc,fun r xs w hx=>?_⟩
   obtain⟨u,t,hu,ht,rfl⟩:=reals_cons.1 hx
   have:=real_int hu; subst this
   simp only[List.foldlM_cons,Sem.run_bind,hr,Result.andThen_ok]
   exact hh r t w ht
  rcases ife_ok hk with ⟨c,hk⟩|⟨c,hk⟩
  ·refine key b hk fun w=>?_
   cases mx
   ·have:b < a:=by have:=iLt_eq b a; simpa [ifeV,this] using c
    simp[Builtin.min2,this]
   ·have:a < b:=by have:=iLt_eq a b; simpa [ifeV,this] using c
    simp[Builtin.max2,this]
  ·refine key a hk fun w=>?_
   cases mx
   ·have : ¬b < a:=by have:=iLt_eq b a; simpa [ifeV,this] using c
    simp[Builtin.min2,this]
   ·have : ¬a < b:=by have:=iLt_eq a b; simpa [ifeV,this] using c
    simp[Builtin.max2,this]
noncomputable def hMinMax(mx:Bool)(vs:List AV)(k:AV→Bool):Bool:=match vs with|[]=>false|v::vs=>qInt v fun i a=>minMax mx vs i a k
theorem hMin_ok{ts:Array TypeId}{vs:List AV}{k:AV→Bool}(hk:hMinMax false vs k=true): ∃v,k v=true∧BoP P fl .min ts ty vs h v:=by
 cases vs with
 | nil=>cases hk
 | cons v vs=>
  obtain⟨i,a,rfl,hk⟩:=qInt_ok (x:=v) hk
  obtain⟨c,hc,hh⟩:=minMax_ok (P:=P) false hk
  refine⟨_,hc,fun S w0 r w xs cs hR hxs=>⟨_,rfl,?_⟩⟩
  obtain⟨u,t,hu,ht,rfl⟩:=reals_cons.1 hxs
  have:=real_int hu; subst this
  have:=hh r t w ht
  simp only[if_neg,Bool.false_eq_true,not_false_eq_true] at this
  simp[builtin,Builtin.min_,this]
theorem hMax_ok{ts:Array TypeId}{vs:List AV}{k:AV→Bool}(hk:hMinMax true vs k=true): ∃v,k v=true∧BoP P fl .max ts ty vs h v:=by
 cases vs with
 | nil=>cases hk
 | cons v vs=>
  obtain⟨i,a,rfl,hk⟩:=qInt_ok (x:=v) hk
  obtain⟨c,hc,hh⟩:=minMax_ok (P:=P) true hk
  refine⟨_,hc,fun S w0 r w xs cs hR hxs=>⟨_,rfl,?_⟩⟩
  obtain⟨u,t,hu,ht,rfl⟩:=reals_cons.1 hxs
  have:=real_int hu; subst this
  have:=hh r t w ht
  simp only[if_true] at this
  simp[builtin,Builtin.max_,this]
end
end Go.Proofs.YtbhbdeelpopgoaaGreatDoor.E

namespace Go.Proofs.YtbhbdeelpopgoaaGreatDoor.E
open Go Go.RowKit H
section
variable {P : Program} {fl : Nat} {env : Tr AV} {h : Hp} {ty : TypeId}
noncomputable def keyEq(x y:AV)(k:Bool→Bool):Bool:=match x with
 | .int i a=>qInt y fun j b=>ask (kEq i j) (boolK (iEq a b) k)
 | .str a=>qStr y fun b=>boolK (sEq a b) k
 | _=>false
noncomputable def keyT(d:TypeDesc)(x:AV)(k:Bool):Bool:=match d with
 | .int _=>qInt x fun _ _=>k
 | .string=>qStr x fun _=>k
 | _=>false
theorem keyEq_ok{x y:AV}{k:Bool→Bool}(hk:keyEq x y k=true)(d:TypeDesc)(hd:keyT d x true=true): ∃b,k b=true∧∀(r:Ren) (u v:Value),real r x=some u→real r y=some v→Instr.sameNow d u v=some b∧(b=true→u=v):=by
 cases x with
 | int i a=>
  obtain⟨j,b,rfl,hk⟩:=qInt_ok (x:=y) hk
  obtain⟨h1,hk1⟩:=ask_ok hk
  have:=kEq_ok h1; subst this
  rw[boolK_eq,iEq_eq] at hk1
  refine⟨_,hk1,fun r u v hu hv=>?_⟩
  rw[real_int hu,real_int hv]
  cases d <;> first|cases hd; done|skip
  refine⟨by simp[Instr.sameNow]; by_cases e:a=b <;> simp[e],fun e=>?_⟩
  have:a=b:=by simpa using e
  rw[this]
 | str a=>
  obtain⟨b,rfl,hk1⟩:=qStr_ok (x:=y) hk
  rw[boolK_eq] at hk1
  refine⟨_,hk1,fun r u v hu hv=>?_⟩
  obtain⟨ha,rfl⟩:=real_str hu
  obtain⟨hb,rfl⟩:=real_str hv
  cases d <;> first|cases hd; done|skip
  rw[sEq_eq ha hb]
  have e:(B (textOf a) == B (textOf b))=decide (textOf a=textOf b):=by
   show((textOf a).toArray == (textOf b).toArray)=_
   by_cases c:textOf a=textOf b
   ·simp[c]
   ·simp[c]
  exact⟨by simp only[Instr.sameNow,e],fun q=>by rw[show textOf a=textOf b from by simpa using q]⟩
 | _=>cases hk
theorem run_checkKey{P:Program}{t:TypeId}{d:TypeDesc}(hd:P.underlying t=some d){x:AV}(hx:keyT d x true=true){r:Ren}{u:Value}(hu:real r x=some u)(b:Bool)(n:Nat)(w:World):(Instr.checkKey b (n+1) t u).run P w = .ok () w:=by
 cases d <;> first|(cases hx; done)|skip
 ·obtain⟨i,a,rfl,_⟩:=qInt_ok (x:=x) hx
  rw[real_int hu]
  simp[Instr.checkKey,run_underlying hd]
 ·obtain⟨s,rfl,_⟩:=qStr_ok (x:=x) hx
  obtain⟨_,rfl⟩:=real_str hu
  simp[Instr.checkKey,run_underlying hd]
noncomputable def findA(x:AV)(ks:List AV):List AV→Nat→(Nat→AV→Bool)→Bool→Bool:=List.rec (motive:=fun _=>List AV→Nat→(Nat→AV→Bool)→Bool→Bool) (fun _ _ _ n=>n)
 (fun y _ ih vs i k n=>List.rec (motive:=fun _=>Bool) false (fun v t _=>keyEq x y fun b=>ife b (k i v) (ih t (Nat.succ i) k n)) vs) ks
theorem findA_ok(d:TypeDesc){x:AV}(hd:keyT d x true=true): ∀{ks vs:List AV} {i:Nat} {k:Nat→AV→Bool} {n:Bool},findA x ks vs i k n=true→
  (∃j v,k (i+j) v=true∧vs[j]?=some v∧∀(r:Ren) (u:Value) (en:List MapEntry),real r x=some u→reals r ks=some (en.map (·.key))→reals r vs=some (en.map (·.val))→∃e,en[j]?=some e∧e.key=u∧Instr.findNow d u en i=some (some (i+j,e.val)))∨
  (n=true∧∀(r:Ren) (u:Value) (en:List MapEntry),real r x=some u→reals r ks=some (en.map (·.key))→reals r vs=some (en.map (·.val))→Instr.findNow d u en i=some none)
 | [],vs,i,k,n,hk=> .inr ⟨hk,fun r u en _ h1 _=>by
   rw[reals_nil] at h1
   have:en=[]:=by cases en with|nil=>rfl|cons a l=>simp at h1
   subst this; rfl⟩
 | y::ks,[],i,k,n,hk=>by cases hk
 | y::ks,v::vs,i,k,n,hk=>by
  obtain⟨b,hk,hb⟩:=keyEq_ok (x:=x) (y:=y) hk d hd
  have un : ∀(r:Ren) (en:List MapEntry),reals r (y::ks)=some (en.map (·.key))→reals r (v::vs)=some (en.map (·.val))→∃e t,en=e::t∧real r y=some e.key∧real r v=some e.val∧reals r ks=some (t.map (·.key))∧reals r vs=some (t.map (·.val)):=by
   intro r en h1 h2
   obtain⟨a1,a2,a3,a4,a5⟩:=reals_cons.1 h1
   obtain⟨b1,b2,b3,b4,b5⟩:=reals_cons.1 h2
   cases en with
   | nil=>simp at a5
   | cons e t=>
    simp only[List.map_cons,List.cons.injEq] at a5 b5
    exact⟨e,t,rfl,a5.1▸a3,b5.1▸b3,a5.2▸a4,b5.2▸b4⟩
  rcases ife_ok hk with ⟨rfl,hk⟩|⟨rfl,hk⟩
  ·refine .inl ⟨0,v,hk,rfl,fun r u en hu h1 h2=>?_⟩
   obtain⟨e,t,rfl,e1,e2,_⟩:=un r en h1 h2
   obtain⟨s1,s2⟩:=hb r u e.key hu e1
   exact⟨e,rfl,(s2 rfl).symm,by simp[Instr.findNow,s1]⟩
  ·rcases findA_ok d hd (ks:=ks) (vs:=vs) (i:=i+1) hk with ⟨j,v',a1,a2,a4⟩|⟨a1,a2⟩
   ·refine .inl ⟨j+1,v',by rw[show i+(j+1)=i+1+j by omega]; exact a1,by simpa using a2,fun r u en hu h1 h2=>?_⟩
    obtain⟨e,t,rfl,e1,e2,e3,e4⟩:=un r en h1 h2
    obtain⟨s1,_⟩:=hb r u e.key hu e1
    obtain⟨e',q1,q2,q3⟩:=a4 r u t hu e3 e4
    exact⟨e',by simpa using q1,q2,by simp only[Instr.findNow,s1]; rw[q3]; congr 3; omega⟩
   ·refine .inr ⟨a1,fun r u en hu h1 h2=>?_⟩
    obtain⟨e,t,rfl,e1,e2,e3,e4⟩:=un r en h1 h2
    obtain⟨s1,_⟩:=hb r u e.key hu e1
    simp only[Instr.findNow,s1]
    exact a2 r u t hu e3 e4
noncomputable def mapT(P:Program)(t:TypeId)(k:TypeId→TypeId→Bool):Bool:=tyK P t fun d=>match d with | .map a b=>k a b|_=>false
theorem mapT_ok{t:TypeId}{k:TypeId→TypeId→Bool}(h:mapT P t k=true): ∃a b,P.underlying t=some (.map a b)∧k a b=true:=by
 obtain⟨d,hd,hk⟩:=tyK_ok h
 cases d <;> first|exact⟨_,_,hd,hk⟩|cases hk
noncomputable def zeroK(P:Program)(t:TypeId)(k:AV→Bool):Bool:=infoK P t fun i=>someK i.zero fun z=>someK (ofV z) k
theorem zeroK_ok{t:TypeId}{k:AV→Bool}(h:zeroK P t k=true): ∃v,k v=true∧∀r,∃z,real r v=some z∧∀w,(zeroValue t).run P w = .ok z w:=by
 obtain⟨i,hi,hk⟩:=infoK_ok h
 obtain⟨z,hz,hk⟩:=someK_ok hk
 obtain⟨v,hv,hk⟩:=someK_ok hk
 exact⟨v,hk,fun r=>⟨z,ofV_ok hv r,run_zero hi hz⟩⟩
noncomputable def okK(c:Bool)(v:AV)(b:Bool)(k:AV→Bool):Bool:=ife c (k (.tup [v,.bool b])) (k v)
theorem okK_ok{c:Bool}{v:AV}{b:Bool}{k:AV→Bool}(h:okK c v b k=true):k (if c then .tup [v,.bool b] else v)=true:=by
 rcases ife_ok h with ⟨rfl,h⟩|⟨rfl,h⟩ <;> exact h
theorem okK_real{c:Bool}{v:AV}{b:Bool}{r:Ren}{u:Value}(h:real r v=some u):real r (if c then .tup [v,.bool b] else v)=some (if c then .tuple #[u,.bool b] else u):=by
 cases c
 ·exact h
 ·have:reals r [v,.bool b]=some [u,.bool b]:=reals_cons.2 ⟨u,[.bool b],h,reals_cons.2 ⟨.bool b,[],rfl,reals_nil,rfl⟩,rfl⟩
  simp only[if_true,real,this,Option.map_some]
noncomputable def hLookup(P:Program)(fl:Nat)(t:TypeId)(x y:Operand)(c:Bool)(h:Hp)(env:Tr AV)(k:AV→Bool):Bool:=evK fl h env x fun m=>evK fl h env y fun q=>mapT P t fun kt et=>tyK P kt fun dk=>keyT dk q (match m with
 | .nilm=>zeroK P et fun z=>okK c z false k
 | .map i=>mapK h i fun ks vs _ _=>findA q ks vs 0 (fun _ v=>okK c v true k) (zeroK P et fun z=>okK c z false k)
 | _=>false)
theorem keyT_and{d:TypeDesc}{x:AV}{k:Bool}(h:keyT d x k=true):keyT d x true=true∧k=true:=by
 cases d <;> first|(cases h; done)|skip
 ·obtain⟨i,a,rfl,h⟩:=qInt_ok (x:=x) h; exact⟨rfl,h⟩
 ·obtain⟨s,rfl,h⟩:=qStr_ok (x:=x) h; exact⟨rfl,h⟩
theorem hLookup_ok{t:TypeId}{x y:Operand}{c:Bool}{k:AV→Bool}(hk:hLookup P fl t x y c h env k=true): ∃v,k v=true∧Yo P fl (.lookup t x y c) ty env h v:=by
 obtain⟨m,hk,h2⟩:=evK_ok hk
 obtain⟨q,hk,h3⟩:=evK_ok hk
 obtain⟨kt,et,hd,hk⟩:=mapT_ok hk
 obtain⟨dk,hdk,hk⟩:=tyK_ok hk
 obtain⟨hq,hk⟩:=keyT_and hk
 cases m with
 | nilm=>
  obtain⟨z,hk,hz⟩:=zeroK_ok hk
  refine⟨_,okK_ok hk,two_ok h2 h3 fun S w0 r w u v hR hu hv=>?_⟩
  obtain⟨zv,e1,e2⟩:=hz r
  cases hu
  refine⟨_,okK_real e1,fun ρ dst pos af g a1 a2=>?_⟩
  have ck:=run_checkKey hdk hq hv true 9999 w
  have e2:=e2 w
  simp only[execOp,a1,a2,Instr.lookup,Sem.run_bind,run_underlying hd,Result.andThen_ok,Sem.run_pure]
  simp[ck,Instr.findKey,run_underlying hdk,Instr.findNow,e2]
 | map i=>
  obtain⟨ks,vs,bs,ck0,hb,hk⟩:=mapK_ok hk
  rcases findA_ok dk hq hk with ⟨j,v,a1,a2,a3⟩|⟨a1,a2⟩
  ·refine⟨_,okK_ok a1,two_ok h2 h3 fun S w0 r w u v' hR hu hv=>?_⟩
   obtain⟨p,hp,rfl⟩:=real_map hu
   obtain⟨en,ckk,b1,b2,b3,_⟩:=hR.at hp hb
   obtain⟨e,c1,c2,c3⟩:=a3 r v' en.toList hv b2 b3
   obtain⟨uv,d1,d2⟩:=reals_at b3 a2
   have d3:uv=e.val:=by
    rw[List.getElem?_map,c1] at d1
    exact(Option.some.inj d1).symm
   subst d3
   refine⟨_,okK_real d2,fun ρ dst pos af g a1 a2=>?_⟩
   have ck : ∀b,(Instr.checkKey b 10000 kt v').run P w = .ok () w:=fun b=>run_checkKey hdk hq hv b 9999 w
   simp only[execOp,a1,a2,Instr.lookup,Sem.run_bind,run_underlying hd,Result.andThen_ok,getObj,Sem.run,Sem.run_pure,b1,ck]
   simp only[Result.andThen_ok,Instr.findKey,Sem.run_bind,run_underlying hdk,c3,Sem.run_pure]
  ·obtain⟨z,hk,hz⟩:=zeroK_ok a1
   refine⟨_,okK_ok hk,two_ok h2 h3 fun S w0 r w u v' hR hu hv=>?_⟩
   obtain⟨zv,e1,e2⟩:=hz r
   obtain⟨p,hp,rfl⟩:=real_map hu
   obtain⟨en,ckk,b1,b2,b3,_⟩:=hR.at hp hb
   have c3:=a2 r v' en.toList hv b2 b3
   refine⟨_,okK_real e1,fun ρ dst pos af g a1 a2=>?_⟩
   have ck : ∀b,(Instr.checkKey b 10000 kt v').run P w = .ok () w:=fun b=>run_checkKey hdk hq hv b 9999 w
   have e2:=e2 w
   simp only[execOp,a1,a2,Instr.lookup,Sem.run_bind,run_underlying hd,Result.andThen_ok,getObj,Sem.run,Sem.run_pure,b1,ck]
   simp only[Result.andThen_ok,Instr.findKey,Sem.run_bind,run_underlying hdk,c3,Sem.run_pure,e2]
 | _=>cases hk
end
end Go.Proofs.YtbhbdeelpopgoaaGreatDoor.E

namespace Go.Proofs.YtbhbdeelpopgoaaGreatDoor.E
open Go Go.RowKit H
section
variable {P : Program} {fl : Nat} {env : Tr AV} {h : Hp} {ty : TypeId}
theorem sameBits_key{d:TypeDesc}{x:AV}(hd:keyT d x true=true){r:Ren}{u:Value}(hu:real r x=some u):Instr.sameBits 10000 u u=true:=by
 cases d <;> first|(cases hd; done)|skip
 ·obtain⟨i,a,rfl,_⟩:=qInt_ok (x:=x) hd
  rw[real_int hu]
  show(i == i && a == a)=true
  cases i <;> simp
 ·obtain⟨s,rfl,_⟩:=qStr_ok (x:=x) hd
  obtain⟨_,rfl⟩:=real_str hu
  show((textOf s).toArray == (textOf s).toArray)=true
  simp
theorem put_map{S:Nat→Prop}{w0:World}{r:Ren}{w:World}(hR:Rel S w0 fl r h w){i:Nat}(hfl:fl≤i){p:Nat×Nat}(hp:r i=some p){a b:List AV}{c:List Nat}{d:Nat}(hb:h.at i=some (.mp a b c d)){en:Array MapEntry}{ck:Nat}{ks vs:List AV}(h1:reals r ks=some (en.toList.map (·.key)))(h2:reals r vs=some (en.toList.map (·.val)))(h3:(en.toList.map (·.born)).Pairwise (· < ·))(h4 : ∀e∈en.toList,e.born < ck){bs:List Nat}(h5:en.toList.map (·.born)=bs):
  Rel S w0 fl r (h.put i (some (.mp ks vs bs ck))) {w with heap:=w.heap.setIfInBounds p.1 (.map en ck)}:=by
 have hlt:=hR.dom i p hp
 refine hR.put hfl hp hb ⟨rfl,rfl,rfl,by simp,fun k hk hn=>?_⟩ ⟨en,ck,?_,h1,h2,h3,h4,h5,rfl⟩
 ·rw[Array.getElem?_setIfInBounds_ne (fun c=>hn c.symm)]
 ·simp[hlt]
theorem run_setMap{w:World}{g:Nat}{en:Array MapEntry}{ck:Nat}(hg:w.heap[g]?=some (.map en ck))(o:Obj):(setObj g o).run P w = .ok () {w with heap:=w.heap.setIfInBounds g o}:=by
 simp[setObj,Sem.run,hg]
noncomputable def hUpdate(P:Program)(fl:Nat)(t:TypeId)(x y z:Operand)(h:Hp)(env:Tr AV)(k:Hp→Bool):Bool:=evK fl h env x fun m=>evK fl h env y fun q=>evK fl h env z fun v=>mapT P t fun kt _=>tyK P kt fun dk=>keyT dk q (match m with
 | .map i=>ask (Nat.ble fl i) (mapK h i fun ks vs bs ck=>findA q ks vs 0 (fun j _=>setK1 v vs j fun vs=>putH h i (.mp ks vs bs ck) k) (catK ks [q] fun ks=>catK vs [v] fun vs=>catK bs [ck] fun bs=>natK (Nat.succ ck) fun ck=>putH h i (.mp ks vs bs ck) k))
 | _=>false)
theorem map_modify(en:List MapEntry)(j:Nat)(u v:Value)(hj : ∃e,en[j]?=some e∧e.key=u):(en.modify j fun e=>{e with key:=u,val:=v}).map (·.key)=en.map (·.key)∧(en.modify j fun e=>{e with key:=u,val:=v}).map (·.val)=(en.map (·.val)).set j v∧(en.modify j fun e=>{e with key:=u,val:=v}).map (·.born)=en.map (·.born):=by
 obtain⟨e0,h0,h1⟩:=hj
 refine⟨?_,?_,?_⟩
 all_goals
  apply List.ext_getElem?
  intro i
  simp only[List.getElem?_map,List.getElem?_modify,List.getElem?_set,List.length_map]
  by_cases c:j=i
  ·subst c
   obtain⟨hl,he⟩:=List.getElem?_eq_some_iff.1 h0
   simp[he,h1,hl]
  ·simp[c]
theorem hUpdate_ok{t:TypeId}{x y z:Operand}{k:Hp→Bool}(hk:hUpdate P fl t x y z h env k=true): ∃h',k h'=true∧Eo P fl (.mapUpdate t x y z) ty env h .und h'∧Eo P fl (.insert t x y z) ty env h .und h':=by
 obtain⟨m,hk,h2⟩:=evK_ok hk
 obtain⟨q,hk,h3⟩:=evK_ok hk
 obtain⟨v,hk,h4⟩:=evK_ok hk
 obtain⟨kt,et,hd,hk⟩:=mapT_ok hk
 obtain⟨dk,hdk,hk⟩:=tyK_ok hk
 obtain⟨hq,hk⟩:=keyT_and hk
 cases m with
 | map i=>
  obtain⟨hfl,hk⟩:=ask_ok hk
  have hfl:=ble_le hfl
  obtain⟨ks,vs,bs,ck0,hb,hk⟩:=mapK_ok hk
  have core : ∀h',(∀S w0 r w mu qu vu,Rel S w0 fl r h w→real r (.map i)=some mu→real r q=some qu→real r v=some vu→∃w',Rel S w0 fl r h' w'∧(Instr.mapUpdate t mu qu vu).run P w = .ok () w')→Eo P fl (.mapUpdate t x y z) ty env h .und h'∧Eo P fl (.insert t x y z) ty env h .und h':=by
   intro h' hh
   refine⟨fun S w0 r f w hf hR=>?_,fun S w0 r f w hf hR=>?_⟩
   all_goals
    obtain⟨mu,hmu,hx⟩:=h2 S w0 r f w hf hR
    obtain⟨qu,hqu,hy⟩:=h3 S w0 r f w hf hR
    obtain⟨vu,hvu,hz⟩:=h4 S w0 r f w hf hR
    obtain⟨w',hR',hr⟩:=hh S w0 r w mu qu vu hR hmu hqu hvu
    exact⟨r,w',.skip,Ext.refl r,hR',.inr ⟨rfl,rfl⟩,fun _ _ _ _ a ha=>by simp[execOp,ha.eval hx,ha.eval hy,ha.eval hz,hr]⟩
  rcases findA_ok dk hq hk with ⟨j,v0,a1,a2,a3⟩|⟨a1,a2⟩
  ·rw[Nat.zero_add,setK1_eq,putH_eq] at a1
   refine⟨_,a1,core _ fun S w0 r w mu qu vu hR hmu hqu hvu=>?_⟩
   obtain⟨p,hp,rfl⟩:=real_map hmu
   obtain⟨en,ckk,b1,b2,b3,b4,b5,b6,rfl⟩:=hR.at hp hb
   obtain⟨e,c1,c2,c3⟩:=a3 r qu en.toList hqu b2 b3
   rw[Nat.zero_add] at c3
   have ck : ∀b,(Instr.checkKey b 10000 kt qu).run P w = .ok () w:=fun b=>run_checkKey hdk hq hqu b 9999 w
   have hm:=map_modify en.toList j qu vu ⟨e,c1,c2⟩
   have e0:(en.modify j fun e=>{e with key:=qu,val:=vu}).toList=en.toList.modify j fun e=>{e with key:=qu,val:=vu}:=by simp
   have hje:en[j]?=some e:=by simpa using c1
   refine⟨_,put_map hR hfl hp hb (en:=en.modify j fun e=>{e with key:=qu,val:=vu}) (ck:=ckk) (by rw[e0,hm.1]; exact b2) (by rw[e0,hm.2.1]; exact reals_set j b3 hvu) (by rw[e0,hm.2.2]; exact b4) (fun e' he'=>?_) (bs:=bs) (by rw[e0,hm.2.2]; exact b6),?_⟩
   ·rw[e0] at he'
    have:e'.born∈(en.toList.modify j fun e=>{e with key:=qu,val:=vu}).map (·.born):=List.mem_map.2 ⟨e',he',rfl⟩
    rw[hm.2.2] at this
    obtain⟨e2,he2,hb2⟩:=List.mem_map.1 this
    exact hb2▸b5 e2 he2
   ·have sb:=sameBits_key hq hqu
    rw[←c2] at sb ck c3 ⊢
    simp only[Instr.mapUpdate,Sem.run_bind,run_underlying hd,Result.andThen_ok,getObj,Sem.run,b1,ck,Instr.findKey,run_underlying hdk,c3,Sem.run_pure,Instr.keyThatStays,hje,Option.map_some,Option.getD_some,sb,if_true,run_setMap b1]
  ·rw[catK_eq,catK_eq,catK_eq,natK_eq,putH_eq] at a1
   refine⟨_,a1,core _ fun S w0 r w mu qu vu hR hmu hqu hvu=>?_⟩
   obtain⟨p,hp,rfl⟩:=real_map hmu
   obtain⟨en,ckk,b1,b2,b3,b4,b5,b6,rfl⟩:=hR.at hp hb
   have c3:=a2 r qu en.toList hqu b2 b3
   have ck : ∀b,(Instr.checkKey b 10000 kt qu).run P w = .ok () w:=fun b=>run_checkKey hdk hq hqu b 9999 w
   refine⟨_,put_map hR hfl hp hb (en:=en.push {key:=qu,val:=vu,born:=ckk}) (ck:=ckk+1) ?_ ?_ ?_ (fun e' he'=>?_) (bs:=bs++[ckk]) (by simp[←b6]),?_⟩
   ·simpa using reals_app b2 (reals_cons.2 ⟨qu,[],hqu,reals_nil,rfl⟩)
   ·simpa using reals_app b3 (reals_cons.2 ⟨vu,[],hvu,reals_nil,rfl⟩)
   ·simp only[Array.toList_push,List.map_append,List.map_cons,List.map_nil,List.pairwise_append,List.pairwise_cons,List.mem_singleton]
    refine⟨b4,⟨fun _ h=>absurd h (by simp),List.Pairwise.nil⟩,fun a ha b hb=>?_⟩
    obtain⟨e2,he2,rfl⟩:=List.mem_map.1 ha
    subst hb
    exact b5 e2 he2
   ·rw[Array.toList_push] at he'
    rcases List.mem_append.1 he' with he'|he'
    ·exact Nat.lt_succ_of_lt (b5 e' he')
    ·rw[List.mem_singleton.1 he']; exact Nat.lt_succ_self _
   ·simp only[Instr.mapUpdate,Sem.run_bind,run_underlying hd,Result.andThen_ok,getObj,Sem.run,b1,ck,Instr.findKey,run_underlying hdk,c3,Sem.run_pure,run_setMap b1]
 | _=>cases hk
noncomputable def hMakeMap(t:TypeId)(n:Option Operand)(h:Hp)(k:AV→Hp→Bool):Bool:=ask (isNone n) (newH h (.mp [] [] [] 0) fun i h=>k (.map i) h)
theorem hMakeMap_ok{t:TypeId}{n:Option Operand}{k:AV→Hp→Bool}(hk:hMakeMap t n h k=true): ∃v h',k v h'=true∧Eo P fl (.makeMap t n) ty env h v h':=by
 obtain⟨h1,hk⟩:=ask_ok hk
 have:=isNone_ok h1; subst this
 replace hk:newH h (.mp [] [] [] 0) (fun i h=>k (.map i) h)=true:=hk
 obtain⟨hn,hk⟩:=newH_ok hk
 refine⟨_,_,hk,fun S w0 r f w hf hR=>?_⟩
 have hx:=upd_ext hR (w.heap.size,0)
 refine⟨_,w.alloc (.map #[] 0),.value (.map (some w.heap.size)),hx,hR.new hn (Kept.alloc w _) (Nat.le_refl _) ⟨#[],0,heap_alloc_new w _,reals_nil,reals_nil,List.Pairwise.nil,(fun e he=>by simp at he),rfl,rfl⟩,.inl ⟨_,rfl,by simp only[real,upd_same,Option.map_some]⟩,fun _ _ _ _ a ha=>?_⟩
 simp[execOp,Instr.makeMap,newObj,Sem.run]
end
end Go.Proofs.YtbhbdeelpopgoaaGreatDoor.E

namespace Go.Proofs.YtbhbdeelpopgoaaGreatDoor.E
open Go Go.RowKit H
section
variable {P : Program} {fl : Nat} {env : Tr AV} {h : Hp} {ty : TypeId}
noncomputable def putRow(fl:Nat)(v:AV)(ys:List AV)(h:Hp)(k:Hp→Bool):Bool:=match v with
 | .sl i o _ _=>ask (Nat.ble fl i) (cellsK h i fun bt opn ro cs=>ife ro false (onesA ys (putK ys cs o fun cs=>putH h i (.cells bt opn ro cs) k)))
 | .slx i o _ _=>ask (Nat.ble fl i) (cellsK h i fun bt opn ro cs=>ife ro false (onesA ys (putK ys cs o fun cs=>putH h i (.cells bt opn ro cs) k)))
 | _=>false
noncomputable def rowLen(v:AV)(k:Nat→Bool):Bool:=match v with
 | .sl _ _ n _=>k n
 | .slx _ _ n _=>k n
 | _=>false
theorem rowLen_ok{v:AV}{k:Nat→Bool}(h:rowLen v k=true): ∃n,k n=true∧∀(r:Ren) (u:Value),real r v=some u→∃a c,u = .slice (some a) n c:=by
 cases v with
 | sl i o n c=>exact⟨n,h,fun r u hu=>by obtain⟨p,_,rfl⟩:=real_sl hu; exact⟨_,_,rfl⟩⟩
 | slx i o n c=>exact⟨n,h,fun r u hu=>by obtain⟨p,_,_,_,_,rfl⟩:=real_slx hu; exact⟨_,_,rfl⟩⟩
 | _=>cases h
theorem putRow_ok{v:AV}{ys:List AV}{k:Hp→Bool}(hk:putRow fl v ys h k=true): ∃h',k h'=true∧∀S w0 r w u us,Rel S w0 fl r h w→real r v=some u→reals r ys=some us→∃a n c w',u = .slice (some a) n c∧(storeCells a us).run P w = .ok () w'∧Rel S w0 fl r h' w':=by
 cases v with
 | sl i o n c=>
  obtain⟨hfl,hk⟩:=ask_ok hk
  obtain⟨bt,opn,ro,cs,hb,hk⟩:=cellsK_ok hk
  rcases ife_ok hk with ⟨_,hk⟩|⟨hro,hk⟩
  ·cases hk
  obtain⟨h1,hk⟩:=onesA_ok hk
  obtain⟨hlen,hk⟩:=putK_ok hk
  rw[putH_eq] at hk
  refine⟨_,hk,fun S w0 r w u us hR hu hus=>?_⟩
  obtain⟨p,hp,rfl⟩:=real_sl hu
  obtain⟨w',hr,hR'⟩:=store_rel (P:=P) hR (ble_le hfl) hp hb hro h1 hus hlen
  exact⟨_,_,_,w',rfl,hr,hR'⟩
 | slx i o n c=>
  obtain⟨hfl,hk⟩:=ask_ok hk
  obtain⟨bt,opn,ro,cs,hb,hk⟩:=cellsK_ok hk
  rcases ife_ok hk with ⟨_,hk⟩|⟨hro,hk⟩
  ·cases hk
  obtain⟨h1,hk⟩:=onesA_ok hk
  obtain⟨hlen,hk⟩:=putK_ok hk
  rw[putH_eq] at hk
  refine⟨_,hk,fun S w0 r w u us hR hu hus=>?_⟩
  obtain⟨p,hp,_,_,_,rfl⟩:=real_slx hu
  obtain⟨w',hr,hR'⟩:=store_rel (P:=P) hR (ble_le hfl) hp hb hro h1 hus hlen
  exact⟨_,_,_,w',rfl,hr,hR'⟩
 | _=>cases hk
noncomputable def hCopy(P:Program)(fl:Nat)(ts:Array TypeId)(vs:List AV)(h:Hp)(k:AV→Hp→Bool):Bool:=two2 vs fun d s=>tsK ts 0 fun t=>tyK P t fun dd=>isSliceT dd fun e=>szK P e fun z=>rowLen d fun n=>srcK z s h fun m xs=>natK (Nat.min m n) fun c=>takeK xs (Nat.mul c z) fun ys=>putRow fl d ys h fun h=>k (.int .i64 (.ofNat c)) h
theorem hCopy_ok{ts:Array TypeId}{vs:List AV}{k:AV→Hp→Bool}(hk:hCopy P fl ts vs h k=true): ∃v h',k v h'=true∧Bo P fl .copy ts ty vs h v h':=by
 obtain⟨d,s,rfl,hk⟩:=two2_ok hk
 obtain⟨t,ht,hk⟩:=tsK_ok hk
 obtain⟨dd,hd,hk⟩:=tyK_ok hk
 obtain⟨e,rfl,hk1⟩:=isSliceT_ok hk
 obtain⟨inf,hi,hk2⟩:=infoK_ok hk1
 obtain⟨n,hk3,hn⟩:=rowLen_ok hk2
 obtain⟨m,xs,hk4,hS⟩:=srcK_ok (P:=P) (fl:=fl) hk3
 rw[natK_eq,takeK_eq] at hk4
 obtain⟨h',hk5,hP⟩:=putRow_ok (P:=P) hk4
 refine⟨_,_,hk5,fun S w0 r w xv cs hR hxs=>?_⟩
 obtain⟨x,y,hx,hy,rfl⟩:=reals2 hxs
 obtain⟨us,hus,hsrc⟩:=hS S w0 r w y hR hy
 obtain⟨a0,c0,e0⟩:=hn r x hx
 obtain⟨a,n',c,w',e1,hr,hR'⟩:=hP S w0 r w x _ hR hx (reals_take _ hus)
 rw[e0] at e1
 cases e1
 refine⟨r,w',_,Ext.refl r,hR',rfl,?_⟩
 have hc:=hsrc.cells (Nat.min m n) (Nat.min_le_left _ _) w rfl
 have hl:=hsrc.lenOf w
 subst e0
 have hr2:(storeCells a0 (us.take (Nat.min m n * inf.size))).run P w = .ok () w':=hr
 simp only[builtin,Builtin.copy_,Sem.run_bind]
 simp[ht,run_underlying hd,hl,run_size hi,hc,hr2,goInt]
noncomputable def eraseK{α:Type}(l:List α)(i:Nat)(k:List α→Bool):Bool:=List.rec (motive:=fun _=>Nat→(List α→Bool)→Bool) (fun _ k=>k []) (fun a t ih i k=>Nat.rec (motive:=fun _=>Bool) (k t) (fun p _=>ih p fun l=>k (a::l)) i) l i k
theorem eraseK_eq{α:Type}: ∀(l:List α) (i:Nat) (k:List α→Bool),eraseK l i k=k (l.eraseIdx i)
 | [],i,k=>by cases i <;> rfl
 | _::_,0,_=>rfl
 | a::l,i+1,k=>eraseK_eq l i fun l=>k (a::l)
theorem reals_erase{r:Ren}: ∀{l:List AV} {us:List Value} (n:Nat),reals r l=some us→reals r (l.eraseIdx n)=some (us.eraseIdx n)
 | [],us,n,e=>by rw[reals_nil] at e; cases e; simp[reals_nil]
 | a::l,us,0,e=>by
  obtain⟨x,t,hu,ht,rfl⟩:=reals_cons.1 e
  exact ht
 | a::l,us,n+1,e=>by
  obtain⟨x,t,hu,ht,rfl⟩:=reals_cons.1 e
  exact reals_cons.2 ⟨x,_,hu,reals_erase n ht,rfl⟩
noncomputable def hDelete(P:Program)(fl:Nat)(ts:Array TypeId)(vs:List AV)(h:Hp)(k:AV→Hp→Bool):Bool:=two2 vs fun m q=>tsK ts 0 fun t=>mapT P t fun kt _=>tyK P kt fun dk=>keyT dk q (match m with
 | .map i=>ask (Nat.ble fl i) (mapK h i fun ks vs bs ck=>findA q ks vs 0 (fun j _=>eraseK ks j fun ks=>eraseK vs j fun vs=>eraseK bs j fun bs=>putH h i (.mp ks vs bs ck) fun h=>k (.tup []) h) (putH h i (.mp ks vs bs ck) fun h=>k (.tup []) h))
 | _=>false)
theorem map_erase{α:Type}(f:MapEntry→α)(l:List MapEntry)(j:Nat):(l.eraseIdx j).map f=(l.map f).eraseIdx j:=by
 induction l generalizing j with
 | nil=>simp
 | cons a l ih=>cases j <;> simp[ih]
theorem hDelete_ok{ts:Array TypeId}{vs:List AV}{k:AV→Hp→Bool}(hk:hDelete P fl ts vs h k=true): ∃v h',k v h'=true∧Bo P fl .delete ts ty vs h v h':=by
 obtain⟨m,q,rfl,hk⟩:=two2_ok hk
 obtain⟨t,ht,hk⟩:=tsK_ok hk
 obtain⟨kt,et,hd,hk⟩:=mapT_ok hk
 obtain⟨dk,hdk,hk⟩:=tyK_ok hk
 obtain⟨hq,hk⟩:=keyT_and hk
 cases m with
 | map i=>
  obtain⟨hfl,hk⟩:=ask_ok hk
  have hfl:=ble_le hfl
  obtain⟨ks,vs,bs,ck0,hb,hk⟩:=mapK_ok hk
  rcases findA_ok dk hq hk with ⟨j,v0,a1,a2,a3⟩|⟨a1,a2⟩
  ·rw[Nat.zero_add,eraseK_eq,eraseK_eq,eraseK_eq,putH_eq] at a1
   refine⟨_,_,a1,fun S w0 r w xv cs hR hxs=>?_⟩
   obtain⟨x,qu,hx,hqu,rfl⟩:=reals2 hxs
   obtain⟨p,hp,rfl⟩:=real_map hx
   obtain⟨en,ckk,b1,b2,b3,b4,b5,b6,rfl⟩:=hR.at hp hb
   obtain⟨e,c1,c2,c3⟩:=a3 r qu en.toList hqu b2 b3
   rw[Nat.zero_add] at c3
   have ck : ∀b,(Instr.checkKey b 10000 kt qu).run P w = .ok () w:=fun b=>run_checkKey hdk hq hqu b 9999 w
   have e0:(en.eraseIdxIfInBounds j).toList=en.toList.eraseIdx j:=by
    have hlt:j < en.size:=by have:=(List.getElem?_eq_some_iff.1 c1).1; simpa using this
    simp[Array.eraseIdxIfInBounds,hlt]
   refine⟨r,_,_,Ext.refl r,put_map hR hfl hp hb (en:=en.eraseIdxIfInBounds j) (ck:=ckk) (by rw[e0,map_erase]; exact reals_erase j b2) (by rw[e0,map_erase]; exact reals_erase j b3) (by rw[e0]; exact b4.sublist ((List.eraseIdx_sublist _ _).map _)) (fun e' he'=>?_) (bs:=bs.eraseIdx j) (by rw[e0,map_erase,b6]),rfl,?_⟩
   ·rw[e0] at he'; exact b5 e' ((List.eraseIdx_sublist _ _).subset he')
   ·simp only[builtin,Builtin.delete_,Sem.run_bind]
    simp[ht,run_underlying hd,getObj,Sem.run,b1,ck,Instr.findKey,run_underlying hdk,c3,run_setMap b1]
  ·rw[putH_eq] at a1
   refine⟨_,_,a1,fun S w0 r w xv cs hR hxs=>?_⟩
   obtain⟨x,qu,hx,hqu,rfl⟩:=reals2 hxs
   obtain⟨p,hp,rfl⟩:=real_map hx
   obtain⟨en,ckk,b1,b2,b3,b4,b5,b6,rfl⟩:=hR.at hp hb
   have c3:=a2 r qu en.toList hqu b2 b3
   have ck : ∀b,(Instr.checkKey b 10000 kt qu).run P w = .ok () w:=fun b=>run_checkKey hdk hq hqu b 9999 w
   refine⟨r,_,_,Ext.refl r,put_map hR hfl hp hb (en:=en) (ck:=ckk) b2 b3 b4 b5 b6,rfl,?_⟩
   simp only[builtin,Builtin.delete_,Sem.run_bind]
   simp[ht,run_underlying hd,getObj,Sem.run,b1,ck,Instr.findKey,run_underlying hdk,c3,run_setMap b1]
 | _=>cases hk
noncomputable def hClear(P:Program)(fl:Nat)(ts:Array TypeId)(vs:List AV)(h:Hp)(k:AV→Hp→Bool):Bool:=one1 vs fun m=>tsK ts 0 fun t=>match m with
 | .map i=>mapT P t fun _ _=>ask (Nat.ble fl i) (mapK h i fun _ _ _ ck=>putH h i (.mp [] [] [] ck) fun h=>k (.tup []) h)
 | m=>tyK P t fun d=>isSliceT d fun e=>rowLen m fun n=>ife (Nat.beq n 0) (k (.tup []) h) (zerosK P e n fun _ ys=>putRow fl m ys h fun h=>k (.tup []) h)
theorem hClear_ok{ts:Array TypeId}{vs:List AV}{k:AV→Hp→Bool}(hk:hClear P fl ts vs h k=true): ∃v h',k v h'=true∧Bo P fl .clear ts ty vs h v h':=by
 obtain⟨m,rfl,hk⟩:=one1_ok hk
 obtain⟨t,ht,hk⟩:=tsK_ok hk
 have row:(tyK P t fun d=>isSliceT d fun e=>rowLen m fun n=>ife (Nat.beq n 0) (k (.tup []) h) (zerosK P e n fun _ ys=>putRow fl m ys h fun h=>k (.tup []) h))=true→∃v h',k v h'=true∧Bo P fl .clear ts ty [m] h v h':=by
  intro hk
  obtain⟨d,hd,hk⟩:=tyK_ok hk
  obtain⟨e,rfl,hk1⟩:=isSliceT_ok hk
  obtain⟨n,hk2,hn⟩:=rowLen_ok hk1
  rcases ife_ok hk2 with ⟨h0,hk⟩|⟨h0,hk⟩
  ·have h0:=Nat.eq_of_beq_eq_true h0
   subst h0
   refine⟨_,_,hk,Bo.pure fun S w0 r w xs cs hR hxs=>⟨_,rfl,?_⟩⟩
   obtain⟨x,hx,rfl⟩:=reals1 hxs
   obtain⟨a,c,rfl⟩:=hn r x hx
   simp[builtin,Builtin.clear_,ht,run_underlying hd]
  ·obtain⟨i,ys,hk,hi,h1,hl,z,hz,hzs,hy⟩:=zerosK_ok hk
   obtain⟨h',hk,hP⟩:=putRow_ok (P:=P) hk
   refine⟨_,_,hk,fun S w0 r w xs cs hR hxs=>?_⟩
   obtain⟨x,hx,rfl⟩:=reals1 hxs
   obtain⟨us,hus,hus2⟩:=hy r
   obtain⟨a0,c0,e0⟩:=hn r x hx
   obtain⟨a,n',c,w',e1,hr,hR'⟩:=hP S w0 r w x us hR hx hus
   rw[e0] at e1
   cases e1
   subst e0
   refine⟨r,w',_,Ext.refl r,hR',rfl,?_⟩
   have hn0:n≠0:=fun c=>by rw[c] at h0; cases h0
   have hzc:(Builtin.zeroCells z.cells n).toList=us:=by
    have:Builtin.zeroCells z.cells n=us.toArray:=by
     rw[←hus2,←hzs]; rfl
    rw[this]
   obtain⟨q,rfl⟩:=Nat.exists_eq_succ_of_ne_zero hn0
   simp[builtin,Builtin.clear_,ht,run_underlying hd,run_zero hi hz,hzc,hr]
 cases m with
 | map i=>
  obtain⟨kt,et,hd,hk⟩:=mapT_ok hk
  obtain⟨hfl,hk⟩:=ask_ok hk
  have hfl:=ble_le hfl
  obtain⟨ks,vs,bs,ck0,hb,hk⟩:=mapK_ok hk
  rw[putH_eq] at hk
  refine⟨_,_,hk,fun S w0 r w xv cs hR hxs=>?_⟩
  obtain⟨x,hx,rfl⟩:=reals1 hxs
  obtain⟨p,hp,rfl⟩:=real_map hx
  obtain⟨en,ckk,b1,b2,b3,b4,b5,b6,rfl⟩:=hR.at hp hb
  refine⟨r,_,_,Ext.refl r,put_map hR hfl hp hb (en:=#[]) (ck:=ckk) reals_nil reals_nil List.Pairwise.nil (fun e' he'=>by simp at he') rfl,rfl,?_⟩
  simp[builtin,Builtin.clear_,ht,run_underlying hd,getObj,Sem.run,b1,run_setMap b1]
 | _=>exact row hk
end
end Go.Proofs.YtbhbdeelpopgoaaGreatDoor.E

namespace Go.Proofs.YtbhbdeelpopgoaaGreatDoor.E
open Go Go.RowKit H
section
variable {P : Program} {fl : Nat} {env : Tr AV} {h : Hp} {ty : TypeId}
noncomputable def natOf(v:AV)(k:Nat→Bool):Bool:=qInt v fun _ i=>Int.rec (motive:=fun _=>Bool) (fun n=>natK n k) (fun _=>false) i
theorem natOf_ok{v:AV}{k:Nat→Bool}(hk:natOf v k=true): ∃kd n,v = .int kd (Int.ofNat n)∧k n=true:=by
 obtain⟨kd,i,rfl,hk⟩:=qInt_ok (x:=v) hk
 cases i with
 | ofNat n=>
  replace hk:natK n k=true:=hk
  rw[natK_eq] at hk
  exact⟨kd,n,rfl,hk⟩
 | negSucc n=>cases hk
noncomputable def hMakeS(P:Program)(fl:Nat)(t:TypeId)(x y:Operand)(h:Hp)(env:Tr AV)(k:AV→Hp→Bool):Bool:=evK fl h env x fun a=>evK fl h env y fun b=>natOf a fun l=>natOf b fun c=>tyK P t fun d=>isSliceT d fun e=>infoK P e fun i=>ask (Nat.ble l c) (ask (Nat.ble c 1000000) (ask (Nat.ble (Nat.mul c i.bytes) 281474976710656) (zerosK P e c fun _ ys=>newH h (.cells e false false ys) fun j h=>k (.sl j 0 l c) h)))
theorem hMakeS_ok{t:TypeId}{x y:Operand}{k:AV→Hp→Bool}(hk:hMakeS P fl t x y h env k=true): ∃v h',k v h'=true∧Eo P fl (.makeSlice t x y) ty env h v h':=by
 obtain⟨a,hk,h2⟩:=evK_ok hk
 obtain⟨b,hk,h3⟩:=evK_ok hk
 obtain⟨ka,l,rfl,hka⟩:=natOf_ok hk
 obtain⟨kb,c,rfl,hkb⟩:=natOf_ok hka
 obtain⟨d,hd,hk⟩:=tyK_ok hkb
 obtain⟨e,rfl,hk1⟩:=isSliceT_ok hk
 obtain⟨i,hi,hk2⟩:=infoK_ok hk1
 obtain⟨q1,hk3⟩:=ask_ok hk2
 obtain⟨q2,hk4⟩:=ask_ok hk3
 obtain⟨q3,hk5⟩:=ask_ok hk4
 have q1:=ble_le q1
 have q2:=ble_le q2
 have q3:c * i.bytes≤281474976710656:=ble_le q3
 obtain⟨i',ys,hk6,hi',h0,hl,z,hz,hzs,hy⟩:=zerosK_ok hk5
 rw[hi] at hi'; cases hi'
 obtain⟨hn,hk7⟩:=newH_ok hk6
 refine⟨_,_,hk7,fun S w0 r f w hf hR=>?_⟩
 obtain⟨u,hu,hx⟩:=h2 S w0 r f w hf hR
 obtain⟨v,hv,hy2⟩:=h3 S w0 r f w hf hR
 have:=real_int hu; subst this
 have:=real_int hv; subst this
 obtain⟨us,hus,hus2⟩:=hy r
 refine⟨_,_,.value (.slice (some ⟨w.heap.size,0,none⟩) l c),upd_ext hR _,new_cells hR hn (t:=e) hus,.inl ⟨_,rfl,by simp only[real,upd_same,Option.map_some]⟩,fun _ _ _ _ ac ha=>?_⟩
 have wl:IntKind.i64.wrap (Int.ofNat l)=(l:Int):=by
  show IntKind.i64.wrap (l:Int)=(l:Int)
  exact wrap64_id (by omega) (by omega)
 have wc:IntKind.i64.wrap (Int.ofNat c)=(c:Int):=by
  show IntKind.i64.wrap (c:Int)=(c:Int)
  exact wrap64_id (by omega) (by omega)
 have hti : ∀w,(typeInfo e).run P w = .ok i w:=fun w=>by simp[typeInfo,hi]
 have e0 : ∀f:Nat→Value,(Array.range 0).map f=([]:List Value).toArray:=fun f=>by apply Array.ext'; simp
 have e1 : ¬((c:Int) < 0):=by omega
 have e2 : ¬((l:Int) < 0):=by omega
 have e3 : ¬((c:Int) < (l:Int)):=by omega
 have e4 : ¬((281474976710656:Int) < (i.bytes:Int) * (c:Int)):=by
  have:(i.bytes:Int) * (c:Int)=((c * i.bytes:Nat):Int):=by push_cast; rw[Int.mul_comm]
  rw[this]; omega
 simp only[execOp,ha.eval hx,ha.eval hy2,Instr.makeSlice,Sem.run_bind,run_underlying hd,Result.andThen_ok,asInt,asIntOf,Sem.run_pure,hti,wl,wc]
 by_cases c0:c * i.size=0
 ·have hc0:c=0:=(Nat.mul_eq_zero.1 c0).resolve_right h0
  subst hc0
  have hl0:l=0:=by omega
  subst hl0
  have hu0:us=[]:=by
   have:=reals_len hus
   rw[hl] at this
   exact List.length_eq_zero_iff.1 (by simpa using this)
  subst hu0
  simp[run_askRoom,run_size hi,newRow,newObj,Sem.run,e0]
 ·simp[e1,e2,e3,e4,run_askRoom,run_size hi,c0,run_zero hi hz,hus2,newRow,newObj,Sem.run]
noncomputable def hAssert(P:Program)(fl:Nat)(x:Operand)(t:TypeId)(c:Bool)(h:Hp)(env:Tr AV)(k:AV→Bool):Bool:=evK fl h env x fun v=>tyK P t fun d=>match v with
 | .nili=>ask c (zeroK P t fun z=>k (.tup [z,.bool false]))
 | .ifc u q=>ife (isIfaceT d true) false (ife (Nat.beq u t) (okK c q true k) (ask c (zeroK P t fun z=>k (.tup [z,.bool false]))))
 | _=>false
theorem tup2_real{r:Ren}{v w:AV}{x y:Value}(h1:real r v=some x)(h2:real r w=some y):real r (.tup [v,w])=some (.tuple #[x,y]):=by
 have:reals r [v,w]=some [x,y]:=reals_cons.2 ⟨x,[y],h1,reals_cons.2 ⟨y,[],h2,reals_nil,rfl⟩,rfl⟩
 simp only[real,this,Option.map_some]
theorem hAssert_ok{x:Operand}{xt t:TypeId}{c:Bool}{k:AV→Bool}(hk:hAssert P fl x t c h env k=true): ∃v,k v=true∧Yo P fl (.typeAssert x xt t c) ty env h v:=by
 obtain⟨v,hk,h2⟩:=evK_ok hk
 obtain⟨d,hd,hk⟩:=tyK_ok hk
 cases v with
 | nili=>
  obtain⟨hc,hk⟩:=ask_ok hk
  subst hc
  obtain⟨z,hk,hz⟩:=zeroK_ok hk
  refine⟨_,hk,one_ok h2 fun S w0 r w u hR hu=>?_⟩
  obtain⟨zv,e1,e2⟩:=hz r
  cases hu
  refine⟨_,tup2_real e1 rfl,fun ρ dst pos af g e=>?_⟩
  simp only[execOp,e,Instr.typeAssert,Sem.run_bind,run_underlying hd,Result.andThen_ok]
  cases d <;> simp[e2]
 | ifc u q=>
  rcases ife_ok hk with ⟨_,hk⟩|⟨hn,hk⟩
  ·cases hk
  have hni : ∀ms,d≠.interface ms:=fun ms c=>by subst c; cases hn
  rcases ife_ok hk with ⟨hu,hk5⟩|⟨hu,hk⟩
  ·have hu:=Nat.eq_of_beq_eq_true hu
   subst hu
   refine⟨_,okK_ok hk5,one_ok h2 fun S w0 r w x hR hx=>?_⟩
   obtain⟨y,hy,rfl⟩:=real_ifc hx
   refine⟨_,okK_real hy,fun ρ dst pos af g e=>?_⟩
   simp only[execOp,e,Instr.typeAssert,Sem.run_bind,run_underlying hd,Result.andThen_ok]
   cases d <;> first|exact absurd rfl (hni _)|simp
  ·obtain⟨hc,hk⟩:=ask_ok hk
   subst hc
   have hne : ¬u=t:=fun c=>by rw[c] at hu; simp at hu
   obtain⟨z,hk,hz⟩:=zeroK_ok hk
   refine⟨_,hk,one_ok h2 fun S w0 r w x hR hx=>?_⟩
   obtain⟨zv,e1,e2⟩:=hz r
   obtain⟨y,hy,rfl⟩:=real_ifc hx
   refine⟨_,tup2_real e1 rfl,fun ρ dst pos af g e=>?_⟩
   simp only[execOp,e,Instr.typeAssert,Sem.run_bind,run_underlying hd,Result.andThen_ok]
   cases d <;> first|exact absurd rfl (hni _)|simp[hne,e2]
 | _=>cases hk
noncomputable def hRange(P:Program)(fl:Nat)(t:TypeId)(x:Operand)(h:Hp)(env:Tr AV)(k:AV→Hp→Bool):Bool:=evK fl h env x fun v=>tyK P t fun d=>match v with
 | .str s=>isStrT d (newH h (.it s 0) fun i h=>k (.ptr i 0) h)
 | .nilm=>isMapT d (newH h (.mit .nilm 0 [] 0) fun i h=>k (.ptr i 0) h)
 | .map j=>isMapT d (mapK h j fun _ _ _ ck=>newH h (.mit (.map j) ck [] ck) fun i h=>k (.ptr i 0) h)
 | _=>false
theorem hRange_ok{t:TypeId}{x:Operand}{k:AV→Hp→Bool}(hk:hRange P fl t x h env k=true): ∃v h',k v h'=true∧Eo P fl (.range t x) ty env h v h':=by
 obtain⟨v,hk,h2⟩:=evK_ok hk
 obtain⟨d,hd,hk⟩:=tyK_ok hk
 cases v with
 | str s=>
  obtain⟨rfl,hk1⟩:=isStrT_ok hk
  obtain⟨hn,hk2⟩:=newH_ok hk1
  refine⟨_,_,hk2,one_eo h2 fun S w0 r w u hR hu=>?_⟩
  obtain⟨hb,rfl⟩:=real_str hu
  refine⟨_,w.alloc (.stringIter (B (textOf s)) 0),.value (.pointer (some ⟨w.heap.size,0,none⟩)),upd_ext hR (w.heap.size,0),hR.new hn (Kept.alloc w _) (Nat.le_refl _) ⟨heap_alloc_new w _,hb⟩,.inl ⟨_,rfl,by simp only[real,upd_same,Option.map_some]⟩,fun ρ dst pos af g e=>?_⟩
  simp[execOp,e,Instr.range,run_underlying hd,newObj,Sem.run]
 | nilm=>
  obtain⟨⟨a,b,rfl⟩,hk1⟩:=isMapT_ok hk
  obtain⟨hn,hk2⟩:=newH_ok hk1
  refine⟨_,_,hk2,one_eo h2 fun S w0 r w u hR hu=>?_⟩
  cases hu
  refine⟨_,w.alloc (.mapIter none 0 #[] 0),.value (.pointer (some ⟨w.heap.size,0,none⟩)),upd_ext hR (w.heap.size,0),hR.new hn (Kept.alloc w _) (Nat.le_refl _) ⟨none,rfl,heap_alloc_new w _⟩,.inl ⟨_,rfl,by simp only[real,upd_same,Option.map_some]⟩,fun ρ dst pos af g e=>?_⟩
  simp[execOp,e,Instr.range,run_underlying hd,newObj,Sem.run]
 | map j=>
  obtain⟨⟨a,b,rfl⟩,hk1⟩:=isMapT_ok hk
  obtain⟨ks,vs,bs,ck,hb,hk1⟩:=mapK_ok hk1
  obtain⟨hn,hk2⟩:=newH_ok hk1
  refine⟨_,_,hk2,one_eo h2 fun S w0 r w u hR hu=>?_⟩
  obtain⟨p,hp,rfl⟩:=real_map hu
  obtain⟨en,ckk,b1,b2,b3,b4,b5,b6,rfl⟩:=hR.at hp hb
  have hx:=upd_ext hR (w.heap.size,0)
  refine⟨_,w.alloc (.mapIter (some p.1) ckk #[] ckk),.value (.pointer (some ⟨w.heap.size,0,none⟩)),hx,hR.new hn (Kept.alloc w _) (Nat.le_refl _) ⟨some p.1,real_mono hx (.map j) _ hu,heap_alloc_new w _⟩,.inl ⟨_,rfl,by simp only[real,upd_same,Option.map_some]⟩,fun ρ dst pos af g e=>?_⟩
  simp[execOp,e,Instr.range,run_underlying hd,newObj,getObj,Sem.run,b1]
 | _=>cases hk
noncomputable def itK(h:Hp)(i:Nat)(k:List Nat→Nat→Bool):Bool:=atK h i fun b=>Blk.rec (motive:=fun _=>Bool) (fun _ _ _ _=>false) (fun _ _ _ _=>false) (fun s p=>k s p) (fun _ _ _ _=>false) false (fun _ _=>false) (fun _=>false) b
theorem itK_ok{i:Nat}{k:List Nat→Nat→Bool}(hk:itK h i k=true): ∃s p,h.at i=some (.it s p)∧k s p=true:=by
 obtain⟨b,hb,hk⟩:=atK_ok hk
 cases b with
 | it s p=>exact⟨s,p,hb,hk⟩
 | _=>cases hk
noncomputable def mitK(h:Hp)(i:Nat)(k:AV→Nat→List Nat→Nat→Bool):Bool:=atK h i fun b=>Blk.rec (motive:=fun _=>Bool) (fun _ _ _ _=>false) (fun _ _ _ _=>false) (fun _ _=>false) (fun m a s l=>k m a s l) false (fun _ _=>false) (fun _=>false) b
theorem mitK_ok{i:Nat}{k:AV→Nat→List Nat→Nat→Bool}(hk:mitK h i k=true): ∃m a s l,h.at i=some (.mit m a s l)∧k m a s l=true:=by
 obtain⟨b,hb,hk⟩:=atK_ok hk
 cases b with
 | mit m a s l=>exact⟨m,a,s,l,hb,hk⟩
 | _=>cases hk
noncomputable def memN(b:Nat)(l:List Nat):Bool:=List.rec (motive:=fun _=>Bool) false (fun x _ ih=>ifeV (Nat.beq x b) true ih) l
theorem memN_eq(b:Nat): ∀l:List Nat,memN b l=l.contains b
 | []=>rfl
 | x::l=>by
  show ifeV (Nat.beq x b) true (memN b l)=_
  rw[memN_eq b l,List.contains_cons]
  by_cases e:x=b
  ·subst e; rw[beq_self]; simp[ifeV]
  ·rw[beq_ne e]
   have:(b == x)=false:=by simp[Ne.symm e]
   rw[this]; rfl
noncomputable def anyLt(c:Nat)(l:List Nat):Bool:=List.rec (motive:=fun _=>Bool) false (fun x _ ih=>ifeV (Nat.blt x c) true ih) l
theorem anyLt_ok{c:Nat}: ∀{l:List Nat},anyLt c l=true→∃b∈l,b < c
 | [],h=>by cases h
 | x::l,h=>by
  replace h:ifeV (Nat.blt x c) true (anyLt c l)=true:=h
  cases hb:Nat.blt x c with
  | true=>exact⟨x,List.mem_cons_self ..,blt_lt hb⟩
  | false=>
   rw[hb] at h
   obtain⟨b,h1,h2⟩:=anyLt_ok h
   exact⟨b,List.mem_cons_of_mem _ h1,h2⟩
noncomputable def isNil{α:Type}(l:List α):Bool:=List.rec (motive:=fun _=>Bool) true (fun _ _ _=>false) l
theorem isNil_ok{α:Type}{l:List α}(h:isNil l=true):l=[]:=by cases l <;> first|rfl|cases h
noncomputable def leftK(seen:List Nat)(since:Nat)(bs:List Nat):List AV→List AV→(List (AV×AV×Nat)→Bool)→Bool:=List.rec (motive:=fun _=>List AV→List AV→(List (AV×AV×Nat)→Bool)→Bool) (fun _ _ k=>k [])
 (fun b _ ih ks vs k=>List.rec (motive:=fun _=>Bool) false (fun q ks _=>List.rec (motive:=fun _=>Bool) false (fun v vs _=>ife (memN b seen) (ih ks vs k) (ask (Nat.blt b since) (ih ks vs fun l=>k ((q,v,b)::l)))) vs) ks) bs
def LRel(r:Ren):List (AV×AV×Nat)→List MapEntry→Prop
 | [],[]=>True
 | x::l,e::m=>real r x.1=some e.key∧real r x.2.1=some e.val∧e.born=x.2.2∧LRel r l m
 | _,_=>False
theorem leftK_ok{seen:List Nat}{since:Nat}: ∀{bs:List Nat} {ks vs:List AV} {k:List (AV×AV×Nat)→Bool},leftK seen since bs ks vs k=true→∃L,k L=true∧∀(r:Ren) (en:List MapEntry),reals r ks=some (en.map (·.key))→reals r vs=some (en.map (·.val))→en.map (·.born)=bs→LRel r L (en.filter fun e=>!seen.toArray.contains e.born)∧∀e∈en.filter (fun e=>!seen.toArray.contains e.born),e.born < since
 | [],ks,vs,k,hk=>⟨[],hk,fun r en _ _ hb=>by
   have:en=[]:=by simpa using hb
   subst this
   exact⟨trivial,fun e he=>by simp at he⟩⟩
 | b::bs,[],vs,k,hk=>by cases hk
 | b::bs,q::ks,[],k,hk=>by cases hk
 | b::bs,q::ks,v::vs,k,hk=>by
  rcases ife_ok (show ife (memN b seen) (leftK seen since bs ks vs k) (ask (Nat.blt b since) (leftK seen since bs ks vs fun l=>k ((q,v,b)::l)))=true from hk) with ⟨hm,hk⟩|⟨hm,hk⟩
  ·obtain⟨L,hk,hL⟩:=leftK_ok hk
   refine⟨L,hk,fun r en h1 h2 h3=>?_⟩
   cases en with
   | nil=>cases h3
   | cons e en=>
    simp only[List.map_cons,List.cons.injEq] at h3
    obtain⟨_,_,_,h1,e1⟩:=reals_cons.1 h1
    obtain⟨_,_,_,h2,e2⟩:=reals_cons.1 h2
    simp only[List.map_cons,List.cons.injEq] at e1 e2
    rw[←e1.2] at h1; rw[←e2.2] at h2
    have hc:(!seen.toArray.contains e.born)=false:=by rw[h3.1]; simpa [memN_eq] using hm
    rw[List.filter_cons_of_neg (by simpa using hc)]
    exact hL r en h1 h2 h3.2
  ·obtain⟨hs,hk⟩:=ask_ok hk
   obtain⟨L,hk,hL⟩:=leftK_ok hk
   refine⟨_,hk,fun r en h1 h2 h3=>?_⟩
   cases en with
   | nil=>cases h3
   | cons e en=>
    simp only[List.map_cons,List.cons.injEq] at h3
    obtain⟨_,_,hq,h1,e1⟩:=reals_cons.1 h1
    obtain⟨_,_,hv,h2,e2⟩:=reals_cons.1 h2
    simp only[List.map_cons,List.cons.injEq] at e1 e2
    rw[←e1.2] at h1; rw[←e2.2] at h2
    rw[←e1.1] at hq; rw[←e2.1] at hv
    have hc:(!seen.toArray.contains e.born)=true:=by rw[h3.1]; simpa [memN_eq] using hm
    rw[List.filter_cons_of_pos (by simpa using hc)]
    obtain⟨hL1,hL2⟩:=hL r en h1 h2 h3.2
    refine⟨⟨hq,hv,h3.1,hL1⟩,fun e' he'=>?_⟩
    rcases List.mem_cons.1 he' with rfl|he'
    ·rw[h3.1]; exact blt_lt hs
    ·exact hL2 e' he'
theorem run_next_map{w:World}{g m since last:Nat}{seen:Array Nat}{es:Array MapEntry}{clock:Nat}{tid:TypeId}(h1:w.heap[g]?=some (.mapIter (some m) since seen last))(h2:w.heap[m]?=some (.map es clock))(h3:seen.size=0∨es.size=0∨∃e∈es.toList,e.born < last)(h5 : ∀e∈es.toList.filter (fun e=>!seen.contains e.born),e.born < since):
  (es.toList.filter (fun e=>!seen.contains e.born)=[]→(Instr.next (.pointer (some ⟨g,0,none⟩)) false tid).run P w = .ok (.tuple #[.bool false]) w)∧
  (es.toList.filter (fun e=>!seen.contains e.born)≠[]→∃e w1,e∈es.toList.filter (fun e=>!seen.contains e.born)∧K0 w w1∧w1.heap=w.heap∧(Instr.next (.pointer (some ⟨g,0,none⟩)) false tid).run P w = .ok (.tuple #[.bool true,e.key,e.val]) {w1 with heap:=w1.heap.setIfInBounds g (.mapIter (some m) since (seen.push e.born) clock)}):=by
 have hg:(!seen.isEmpty && !es.isEmpty && es.all (·.born ≥ last))=false:=by
  rcases h3 with q|q|⟨e,he,q⟩
  ·have:seen.isEmpty=true:=by simpa [Array.isEmpty] using q
   simp[this]
  ·have:es.isEmpty=true:=by simpa [Array.isEmpty] using q
   simp[this]
  ·have:es.all (·.born ≥ last)=false:=by
    rw[Bool.eq_false_iff]
    intro c
    rw[Array.all_eq_true'] at c
    have:=c e (by simpa using he)
    simp at this; omega
   simp[this]
 obtain⟨left,hleft⟩ : ∃left,left=es.toList.filter (fun e=>!seen.contains e.born):=⟨_,rfl⟩
 rw[←hleft] at h5 ⊢
 have hl:es.filter (fun e=>!seen.contains e.born)=left.toArray:=by apply Array.ext'; simp[hleft]
 have ho:left.toArray.filter (fun e=>decide (e.born < since))=left.toArray:=by
  apply Array.ext'
  simpa using h5
 have hnw:left.toArray.filter (fun e=>decide (e.born ≥ since))=#[]:=by
  apply Array.ext'
  simp only[List.filter_toArray]
  rw[List.filter_eq_nil_iff.2 fun e he=>by have:=h5 e he; simp; omega]
 have hcand:(if left.toArray.isEmpty then #[none] else #[])++(left.toArray++#[]).map some=(if left.isEmpty then [none] else left.map some).toArray:=by
  cases left <;> simp
 obtain⟨F,hF⟩ : ∃F:Nat→Sem Value,F=fun j=>match (if left.isEmpty then [none] else left.map some)[j]? with
   | some (some e)=>(do setObj g (.mapIter (some m) since (seen.push e.born) clock); pure (Value.tuple #[.bool true,e.key,e.val]):Sem Value)
   | some none=>pure (.tuple #[.bool false])
   | none=>stuck "Next: no such candidate":=⟨_,rfl⟩
 have base:(Instr.next (.pointer (some ⟨g,0,none⟩)) false tid).run P w=(choose (.mapNext (if left.isEmpty then [none] else left.map some).length) >>= F).run P w:=by
  subst hF
  simp only[Instr.next,getObj,Sem.run_bind,Sem.run,h1,h2,Result.andThen_ok,hg,hl,if_false,Bool.false_eq_true,Sem.run_pure]
  simp only[ho,hnw,hcand]
  simp only[List.getElem?_toArray,List.size_toArray]
  rfl
 refine⟨fun hn=>?_,fun hn=>?_⟩
 ·rw[base,hF,hn]
  simp[run_choose_drew,Question.forced]
 ·have he:left.isEmpty=false:=by cases left <;> simp at hn ⊢
  have key : ∀(j:Nat) (w1:World),j < left.length→K0 w w1→w1.heap=w.heap→∃e w2,e∈left∧K0 w w2∧w2.heap=w.heap∧(F j).run P w1 = .ok (.tuple #[.bool true,e.key,e.val]) {w2 with heap:=w2.heap.setIfInBounds g (.mapIter (some m) since (seen.push e.born) clock)}:=by
   intro j w1 hj hk hw
   refine⟨left[j],w1,List.getElem_mem hj,hk,hw,?_⟩
   have:(left.map some)[j]?=some (some left[j]):=by simp[hj]
   subst hF
   simp only[he,Bool.false_eq_true,if_false,this,Sem.run_bind,setObj,Sem.run,hw,h1,Sem.run_pure,Result.andThen_ok]
  have hpos:0 < left.length:=by cases left <;> simp at hn ⊢
  rw[base,he]
  simp only[Bool.false_eq_true,if_false,List.length_map,Sem.run_bind,run_choose_drew]
  by_cases hf:(Question.mapNext left.length).forced=true
  ·simp only[hf,if_true,Result.andThen_ok]
   exact key 0 w hpos (Kept.refl _ w) rfl
  ·simp only[hf,if_false,Result.andThen_ok,Bool.false_eq_true]
   exact key _ w.drew (Nat.mod_lt _ hpos) (Kept.drew w) rfl
noncomputable def okS(seen bs:List Nat)(last:Nat)(k:Bool):Bool:=ife (isNil seen) k (ife (isNil bs) k (ask (anyLt last bs) k))
theorem okS_ok{seen bs:List Nat}{last:Nat}{k:Bool}(h:okS seen bs last k=true):k=true∧(seen=[]∨bs=[]∨∃b∈bs,b < last):=by
 rcases ife_ok h with ⟨e,h⟩|⟨_,h⟩
 ·exact⟨h,.inl (isNil_ok e)⟩
 rcases ife_ok h with ⟨e,h⟩|⟨_,h⟩
 ·exact⟨h,.inr (.inl (isNil_ok e))⟩
 obtain⟨e,h⟩:=ask_ok h
 exact⟨h,.inr (.inr (anyLt_ok e))⟩
noncomputable def stepsK(fl i:Nat)(h:Hp)(k:List (AV×AV×Nat)→(Nat→(Hp→Bool)→Bool)→Bool):Bool:=ask (Nat.ble fl i) (mitK h i fun m a s l=>match m with
 | .nilm=>k [] fun _ _=>false
 | .map j=>mapK h j fun ks vs bs ck=>okS s bs l (leftK s a bs ks vs fun L=>k L fun b k=>catK s [b] fun s=>putH h i (.mit (.map j) a s ck) k)
 | _=>false)
def StepOk(P:Program)(fl i:Nat)(h:Hp)(L:List (AV×AV×Nat))(next:Nat→Hp):Prop:=∀S w0 r w (q:Nat×Nat) tid,Rel S w0 fl r h w→r i=some q→
 (L=[]∧(Instr.next (.pointer (some ⟨q.1,0,none⟩)) false tid).run P w = .ok (.tuple #[.bool false]) w)∨
 ∃x∈L,∃u w',real r (.tup [.bool true,x.1,x.2.1])=some u∧(Instr.next (.pointer (some ⟨q.1,0,none⟩)) false tid).run P w = .ok u w'∧Rel S w0 fl r (next x.2.2) w'
theorem LRel.mem{r:Ren}: ∀{L:List (AV×AV×Nat)} {l:List MapEntry} {e:MapEntry},LRel r L l→e∈l→∃x∈L,real r x.1=some e.key∧real r x.2.1=some e.val∧e.born=x.2.2
 | [],[],e,_,h=>by cases h
 | [],_::_,e,h,_=>h.elim
 | x::L,[],e,h,_=>h.elim
 | x::L,e0::l,e,h,he=>by
  rcases List.mem_cons.1 he with rfl|he
  ·exact⟨x,List.mem_cons_self ..,h.1,h.2.1,h.2.2.1⟩
  ·obtain⟨y,hy,q⟩:=LRel.mem h.2.2.2 he
   exact⟨y,List.mem_cons_of_mem _ hy,q⟩
theorem stepsK_ok{i:Nat}{k:List (AV×AV×Nat)→(Nat→(Hp→Bool)→Bool)→Bool}(hk:stepsK fl i h k=true): ∃L next f,k L f=true∧(∀b k,f b k=true→k (next b)=true)∧StepOk P fl i h L next:=by
 obtain⟨hfl,hk⟩:=ask_ok hk
 have hfl:=ble_le hfl
 obtain⟨m,a,s,l,hb,hk⟩:=mitK_ok hk
 cases m with
 | nilm=>
  refine⟨[],fun _=>h,_,hk,(fun b k c=>by cases c),fun S w0 r w q tid hR hq=> .inl ⟨rfl,?_⟩⟩
  obtain⟨m,h1,h2⟩:=hR.at hq hb
  cases h1
  simp[Instr.next,getObj,Sem.run,h2]
 | map j=>
  obtain⟨ks,vs,bs,ck,hbm,hk⟩:=mapK_ok hk
  obtain⟨hk,hs⟩:=okS_ok hk
  obtain⟨L,hk,hL⟩:=leftK_ok hk
  refine⟨L,fun b=>h.put i (some (.mit (.map j) a (s++[b]) ck)),_,hk,fun b k hk=>by rwa [catK_eq,putH_eq] at hk,fun S w0 r w q tid hR hq=>?_⟩
  obtain⟨m,h1,h2⟩:=hR.at hq hb
  obtain⟨p,hp,e⟩:=real_map h1
  cases e
  obtain⟨en,ckk,b1,b2,b3,b4,b5,b6,rfl⟩:=hR.at hp hbm
  obtain⟨hL1,hL2⟩:=hL r en.toList b2 b3 b6
  have h3:s.toArray.size=0∨en.size=0∨∃e∈en.toList,e.born < l:=by
   rcases hs with rfl|rfl|⟨b,hb,hlt⟩
   ·exact .inl rfl
   ·have:=congrArg List.length b6
    simp at this
    exact .inr (.inl (by simp[this]))
   ·rw[←b6] at hb
    obtain⟨e,he,rfl⟩:=List.mem_map.1 hb
    exact .inr (.inr ⟨e,he,hlt⟩)
  obtain⟨hA,hB⟩:=run_next_map (P:=P) (tid:=tid) h2 b1 h3 hL2
  by_cases hnil:en.toList.filter (fun e=>!s.toArray.contains e.born)=[]
  ·refine .inl ⟨?_,hA hnil⟩
   rw[hnil] at hL1
   cases L with
   | nil=>rfl
   | cons x L=>exact hL1.elim
  ·obtain⟨e,w1,he,hk1,hw1,hrun⟩:=hB hnil
   obtain⟨x,hx,hx1,hx2,hx3⟩:=hL1.mem he
   have hR1:=hR.same hk1
   have hdom:=hR1.dom i q hq
   refine .inr ⟨x,hx,_,_,?_,hrun,hR1.put hfl hq hb ⟨rfl,rfl,rfl,by simp,fun j hj hn=>by rw[Array.getElem?_setIfInBounds_ne (fun c=>hn c.symm)]⟩ ⟨some p.1,h1,?_⟩⟩
   ·have:reals r [.bool true,x.1,x.2.1]=some [.bool true,e.key,e.val]:=reals_cons.2 ⟨_,_,rfl,reals_cons.2 ⟨_,_,hx1,reals_cons.2 ⟨_,_,hx2,reals_nil,rfl⟩,rfl⟩,rfl⟩
    simp only[real,this,Option.map_some]
   ·simp[hdom,←hx3]
 | _=>cases hk
noncomputable def nextK(fl i:Nat)(h:Hp)(k:AV→Hp→Bool):Bool:=stepsK fl i h fun L f=>List.rec (motive:=fun _=>Bool) (k (.tup [.bool false]) h) (fun x t _=>ask (isNil t) (f x.2.2 fun h=>k (.tup [.bool true,x.1,x.2.1]) h)) L
noncomputable def hNext(fl:Nat)(x:Operand)(b:Bool)(h:Hp)(env:Tr AV)(k:AV→Hp→Bool):Bool:=evK fl h env x fun v=>qPtr v fun i o=>ask (Nat.beq o 0) (ife b (ask (Nat.ble fl i) (itK h i fun s p=>dropK s p fun l=>List.rec (motive:=fun _=>Bool) (k (.tup [.bool false]) h) (fun c _ _=>ask (Nat.blt c 128) (natK p fun p=>putH h i (.it s (Nat.succ p)) fun h=>k (.tup [.bool true,.int .i64 (.ofNat p),.int .i32 (.ofNat c)]) h)) l)) (nextK fl i h k))
theorem hNext_ok{x:Operand}{b:Bool}{k:AV→Hp→Bool}(hk:hNext fl x b h env k=true): ∃v h',k v h'=true∧Eo P fl (.next x b) ty env h v h':=by
 obtain⟨v,hk,h2⟩:=evK_ok hk
 obtain⟨i,o,rfl,hk⟩:=qPtr_ok (x:=v) hk
 obtain⟨ho,hk⟩:=ask_ok hk
 have ho:=Nat.eq_of_beq_eq_true ho
 subst ho
 rcases ife_ok hk with ⟨hb,hk1⟩|⟨hb,hk1⟩
 rotate_left
 ·subst hb
  clear hk
  obtain⟨L,next,f,hk,hf,hS⟩:=stepsK_ok (P:=P) (show stepsK fl i h (fun L f=>List.rec (motive:=fun _=>Bool) (k (.tup [.bool false]) h) (fun x t _=>ask (isNil t) (f x.2.2 fun h=>k (.tup [.bool true,x.1,x.2.1]) h)) L)=true from hk1)
  cases L with
  | nil=>
   refine⟨_,_,hk,one_eo h2 fun S w0 r w u hR hu=>?_⟩
   obtain⟨q,hq,rfl⟩:=real_ptr hu
   refine⟨r,w,.value (.tuple #[.bool false]),Ext.refl r,hR,.inl ⟨_,rfl,rfl⟩,fun ρ dst pos af g e=>?_⟩
   rcases hS S w0 r w q ty hR hq with ⟨_,hr⟩|⟨x,hx,_⟩
   ·simp[execOp,e,hr]
   ·cases hx
  | cons x t=>
   obtain⟨ht,hk⟩:=ask_ok hk
   have:=isNil_ok ht; subst this
   refine⟨_,_,hf _ _ hk,one_eo h2 fun S w0 r w u hR hu=>?_⟩
   obtain⟨q,hq,rfl⟩:=real_ptr hu
   rcases hS S w0 r w q ty hR hq with ⟨c,_⟩|⟨y,hy,z,w',hz,hr,hR'⟩
   ·cases c
   ·have:=List.mem_singleton.1 hy
    subst this
    exact⟨r,w',.value z,Ext.refl r,hR',.inl ⟨_,rfl,hz⟩,fun ρ dst pos af g e=>by simp[execOp,e,hr]⟩
 subst hb
 clear hk
 obtain⟨hfl,hk⟩:=ask_ok hk1
 obtain⟨s,p,hbk,hk⟩:=itK_ok hk
 rw[dropK_eq] at hk
 cases hd:s.drop p with
 | nil=>
  rw[hd] at hk
  refine⟨_,_,hk,one_eo h2 fun S w0 r w u hR hu=>?_⟩
  obtain⟨q,hq,rfl⟩:=real_ptr hu
  obtain⟨e1,e2⟩:=hR.at hq hbk
  have hge:s.length≤p:=by
   have:=congrArg List.length hd
   simp at this; omega
  refine⟨r,w,.value (.tuple #[.bool false]),Ext.refl r,hR,.inl ⟨_,rfl,rfl⟩,fun ρ dst pos af g e=>?_⟩
  have : ¬p < (B (textOf s)).size:=by rw[B_size,text_len]; omega
  simp[execOp,e,Instr.next,getObj,Sem.run,e1,this]
 | cons c l=>
  rw[hd] at hk
  obtain⟨hc,hk⟩:=ask_ok hk
  rw[natK_eq,putH_eq] at hk
  have hc:=blt_lt hc
  refine⟨_,_,hk,one_eo h2 fun S w0 r w u hR hu=>?_⟩
  obtain⟨q,hq,rfl⟩:=real_ptr hu
  obtain⟨e1,e2⟩:=hR.at hq hbk
  have hlt:p < s.length:=by
   have:=congrArg List.length hd
   simp at this; omega
  have hcp:s[p]?=some c:=by
   have:(s.drop p)[0]?=some c:=by rw[hd]; rfl
   simpa using this
  have hdom:=hR.dom i q hq
  refine⟨r,{w with heap:=w.heap.setIfInBounds q.1 (.stringIter (B (textOf s)) (p+1))},.value (.tuple #[.bool true,.int .i64 (p:Int),.int .i32 (c:Int)]),Ext.refl r,hR.put (ble_le hfl) hq hbk ⟨rfl,rfl,rfl,by simp,fun j hj hn=>by rw[Array.getElem?_setIfInBounds_ne (fun c=>hn c.symm)]⟩ ⟨by simp[hdom],e2⟩,.inl ⟨_,rfl,?_⟩,fun ρ dst pos af g e=>?_⟩
  ·have:reals r [.bool true,.int .i64 (Int.ofNat p),.int .i32 (Int.ofNat c)]=some [.bool true,.int .i64 (p:Int),.int .i32 (c:Int)]:=rfl
   simp only[real,this,Option.map_some]
  ·have h3:p < (B (textOf s)).size:=by rw[B_size,text_len]; exact hlt
   have h4:((B (textOf s)).get! (p+0)).toNat=c:=by
    have h5:(textOf s)[p]?=some (UInt8.ofNat c):=by simp[textOf,hcp]
    have h6:(B (textOf s)).get! p=UInt8.ofNat c:=by
     show(textOf s).toArray[p]! = _
     simp[h5]
    rw[Nat.add_zero,h6]
    simp; omega
   have h5:Utf8.decode (B (textOf s)) p=(c,1):=by
    unfold Utf8.decode
    simp only[h4]
    rw[if_pos hc]
   simp[execOp,e,Instr.next,getObj,setObj,Sem.run,e1,h3,h5,goInt]
noncomputable def lastN(s:List Nat)(k:Nat→Bool):Bool:=List.rec (motive:=fun _=>Bool) false (fun x t ih=>List.rec (motive:=fun _=>Bool) (k x) (fun _ _ _=>ih) t) s
theorem lastN_ok: ∀{s:List Nat} {k:Nat→Bool},lastN s k=true→∃b,k b=true∧s.getLast?=some b
 | [],k,h=>by cases h
 | [x],k,h=>⟨x,h,rfl⟩
 | x::y::t,k,h=>by
  obtain⟨b,h1,h2⟩:=lastN_ok (s:=y::t) (k:=k) h
  exact⟨b,h1,by rw[List.getLast?_cons_cons]; exact h2⟩
noncomputable def findB(b:Nat)(bs:List Nat):List AV→List AV→(AV→AV→Bool)→Bool:=List.rec (motive:=fun _=>List AV→List AV→(AV→AV→Bool)→Bool) (fun _ _ _=>false)
 (fun c _ ih ks vs k=>List.rec (motive:=fun _=>Bool) false (fun q ks _=>List.rec (motive:=fun _=>Bool) false (fun v vs _=>ife (Nat.beq c b) (k q v) (ih ks vs k)) vs) ks) bs
theorem findB_ok{b:Nat}: ∀{bs:List Nat} {ks vs:List AV} {k:AV→AV→Bool},findB b bs ks vs k=true→∃q v,k q v=true∧∀(r:Ren) (en:List MapEntry),reals r ks=some (en.map (·.key))→reals r vs=some (en.map (·.val))→en.map (·.born)=bs→∃e,en.find? (·.born == b)=some e∧real r q=some e.key∧real r v=some e.val
 | [],ks,vs,k,hk=>by cases hk
 | c::bs,[],vs,k,hk=>by cases hk
 | c::bs,q::ks,[],k,hk=>by cases hk
 | c::bs,q::ks,v::vs,k,hk=>by
  rcases ife_ok (show ife (Nat.beq c b) (k q v) (findB b bs ks vs k)=true from hk) with ⟨hm,hk1⟩|⟨hm,hk⟩
  ·have:=Nat.eq_of_beq_eq_true hm
   subst this
   refine⟨q,v,hk1,fun r en h1 h2 h3=>?_⟩
   cases en with
   | nil=>cases h3
   | cons e en=>
    simp only[List.map_cons,List.cons.injEq] at h3
    obtain⟨_,_,hq,_,e1⟩:=reals_cons.1 h1
    obtain⟨_,_,hv,_,e2⟩:=reals_cons.1 h2
    simp only[List.map_cons,List.cons.injEq] at e1 e2
    rw[←e1.1] at hq; rw[←e2.1] at hv
    exact⟨e,by simp[h3.1],hq,hv⟩
  ·obtain⟨q',v',hk,hF⟩:=findB_ok hk
   refine⟨q',v',hk,fun r en h1 h2 h3=>?_⟩
   cases en with
   | nil=>cases h3
   | cons e en=>
    simp only[List.map_cons,List.cons.injEq] at h3
    obtain⟨_,_,hq,h1,e1⟩:=reals_cons.1 h1
    obtain⟨_,_,hv,h2,e2⟩:=reals_cons.1 h2
    simp only[List.map_cons,List.cons.injEq] at e1 e2
    rw[←e1.2] at h1; rw[←e2.2] at h2
    obtain⟨e',a1,a2,a3⟩:=hF r en h1 h2 h3.2
    have hne:(e.born == b)=false:=by
     rw[h3.1]
     by_cases c0:c=b
     ·subst c0; rw[beq_self] at hm; cases hm
     ·simp[c0]
    exact⟨e',by rw[List.find?_cons,hne]; exact a1,a2,a3⟩
noncomputable def hEntry(fl:Nat)(x:Operand)(h:Hp)(env:Tr AV)(k:AV→Bool):Bool:=evK fl h env x fun v=>qPtr v fun i o=>ask (Nat.beq o 0) (mitK h i fun m _ s l=>match m with
 | .map j=>mapK h j fun ks vs bs ck=>ask (Nat.beq ck l) (lastN s fun b=>findB b bs ks vs fun q v=>k (.tup [q,v]))
 | _=>false)
theorem hEntry_ok{x:Operand}{k:AV→Bool}(hk:hEntry fl x h env k=true): ∃v,k v=true∧Yo P fl (.entry x) ty env h v:=by
 obtain⟨v,hk,h2⟩:=evK_ok hk
 obtain⟨i,o,rfl,hk⟩:=qPtr_ok (x:=v) hk
 obtain⟨ho,hk⟩:=ask_ok hk
 have ho:=Nat.eq_of_beq_eq_true ho
 subst ho
 obtain⟨m,a,s,l,hb,hk⟩:=mitK_ok hk
 cases m with
 | map j=>
  obtain⟨ks,vs,bs,ck,hbm,hk⟩:=mapK_ok hk
  obtain⟨hc,hk⟩:=ask_ok hk
  have hc:=Nat.eq_of_beq_eq_true hc
  obtain⟨b,hk,hl⟩:=lastN_ok hk
  obtain⟨q,v,hk,hF⟩:=findB_ok hk
  refine⟨_,hk,one_ok h2 fun S w0 r w u hR hu=>?_⟩
  obtain⟨p,hp,rfl⟩:=real_ptr hu
  obtain⟨mm,h1,h2⟩:=hR.at hp hb
  obtain⟨pm,hpm,e⟩:=real_map h1
  cases e
  obtain⟨en,ckk,b1,b2,b3,b4,b5,b6,rfl⟩:=hR.at hpm hbm
  obtain⟨e,c1,c2,c3⟩:=hF r en.toList b2 b3 b6
  have hbk:s.toArray.back?=some b:=by rw[List.back?_toArray]; exact hl
  have hfd:en.find? (fun e=>e.born == b)=some e:=by rw[←Array.find?_toList]; exact c1
  refine⟨.tuple #[e.key,e.val],?_,fun ρ dst pos af g e'=>?_⟩
  ·have:reals r [q,v]=some [e.key,e.val]:=reals_cons.2 ⟨_,_,c2,reals_cons.2 ⟨_,_,c3,reals_nil,rfl⟩,rfl⟩
   simp only[real,this,Option.map_some]
  ·subst hc
   simp[execOp,e',Instr.entry,getObj,Sem.run,h2,b1,hbk,hfd]
 | _=>cases hk
end
end Go.Proofs.YtbhbdeelpopgoaaGreatDoor.E

set_option linter.constructorNameAsVariable false
set_option linter.unusedVariables false
namespace Go.Proofs.YtbhbdeelpopgoaaGreatDoor.E
open Go Go.RowKit H
section
variable {P : Program} {fl : Nat} {env : Tr AV} {h : Hp} {ty : TypeId}
noncomputable def hSliceData(vs:List AV)(k:AV→Bool):Bool:=one1 vs fun v=>match v with
 | .nils=>k .nilp
 | .sl i o _ c=>ask (Nat.ble 1 c) (k (.ptr i o))
 | .slx i o n _=>ask (Nat.ble 1 n) (k (.ptr i o))
 | _=>false
theorem hSliceData_ok{ts:Array TypeId}{vs:List AV}{k:AV→Bool}(hk:hSliceData vs k=true): ∃v,k v=true∧Bo P fl .unsafeSliceData ts ty vs h v h:=by
 obtain⟨v,rfl,hk⟩:=one1_ok hk
 cases v with
 | nils=>
  refine⟨_,hk,Bo.pure fun S w0 r w xs cs hR hxs=>?_⟩
  obtain⟨x,hx,rfl⟩:=reals1 hxs
  cases hx
  exact⟨_,rfl,by simp[builtin,Lib.run_unsafeSliceData_nil]⟩
 | sl i o n c=>
  obtain⟨h1,hk⟩:=ask_ok hk
  have h1:=ble_le h1
  refine⟨_,hk,Bo.pure fun S w0 r w xs cs hR hxs=>?_⟩
  obtain⟨x,hx,rfl⟩:=reals1 hxs
  obtain⟨p,hp,rfl⟩:=real_sl hx
  exact⟨.pointer (some ⟨p.1,o,none⟩),by simp only[real,hp,Option.map_some],by simp[builtin,Lib.run_unsafeSliceData_row _ _ _ _ _ _ (show c≠0 by omega)]⟩
 | slx i o n z=>
  obtain⟨h1,hk⟩:=ask_ok hk
  have h1:=ble_le h1
  refine⟨_,hk,Bo.pure fun S w0 r w xs cs hR hxs=>?_⟩
  obtain⟨x,hx,rfl⟩:=reals1 hxs
  obtain⟨p,hp,hz,hle,hm,rfl⟩:=real_slx hx
  have hn:n≤(p.2 - o) / z:=(Nat.le_div_iff_mul_le hz).2 (by omega)
  exact⟨.pointer (some ⟨p.1,o,none⟩),by simp only[real,hp,Option.map_some],by simp[builtin,Lib.run_unsafeSliceData_row _ _ _ _ _ _ (show(p.2 - o) / z≠0 by omega)]⟩
 | _=>cases hk
noncomputable def hUStr(P:Program)(fl:Nat)(ts:Array TypeId)(vs:List AV)(h:Hp)(k:AV→Hp→Bool):Bool:=two2 vs fun a b=>qInt b fun kd z=>ask (kEq kd .i64) (two2T ts fun t _=>match z with
 | .ofNat 0=>(match a with
  | .nilp=>k (.str []) h
  | .ptr _ _=>k (.str []) h
  | _=>false)
 | .ofNat n=>qPtr a fun i o=>ask (Nat.beq o 0) (ask (Nat.ble fl i) (tyK P t fun d=>(match d with
  | .pointer e=>ask (Nat.beq (P.cellsOf e) 1) (ask (Nat.ble n 9223372036854775807) (cellsK h i fun bt op _ cs=>ask (Nat.beq bt e) (takeK cs n fun l=>lenK l fun m=>ask (Nat.beq m n) (intsK l fun s=>putH h i (.cells bt op true cs) fun h=>k (.str s) h))))
  | _=>false)))
 | _=>false)
where
 two2T (ts:Array TypeId) (k:TypeId→TypeId→Bool):Bool:=match ts with
  | ⟨[t,u]⟩=>k t u
  | _=>false
theorem two2T_ok{ts:Array TypeId}{k:TypeId→TypeId→Bool}(h:hUStr.two2T ts k=true): ∃t u,ts=#[t,u]∧k t u=true:=by
 unfold hUStr.two2T at h
 split at h
 ·exact⟨_,_,rfl,h⟩
 ·cases h
theorem hUStr_ok{ts:Array TypeId}{vs:List AV}{k:AV→Hp→Bool}(hk:hUStr P fl ts vs h k=true): ∃v h',k v h'=true∧Bo P fl .unsafeString ts ty vs h v h':=by
 obtain⟨a,b,rfl,hk⟩:=two2_ok hk
 obtain⟨kd,z,rfl,hk⟩:=qInt_ok (x:=b) hk
 obtain⟨hkd,hk⟩:=ask_ok hk
 obtain rfl:=kEq_ok hkd
 obtain⟨t,u,rfl,hk⟩:=two2T_ok hk
 cases z with
 | negSucc n=>cases hk
 | ofNat n=>
  cases n with
  | zero=>
   cases a with
   | nilp=>
    refine⟨_,_,hk,Bo.pure fun S w0 r w xs cs hR hxs=>?_⟩
    obtain⟨x,y,hx,hy,rfl⟩:=reals2 hxs
    cases hx; cases hy
    exact⟨_,rfl,by
     have q:=congrArg (fun q=>q.andThen fun a w'=>Result.ok (Next.value a) w') (Lib.run_unsafeString_none (P:=P) w t u ty none)
     simp[builtin] at q ⊢
     exact q⟩
   | ptr i o=>
    refine⟨_,_,hk,Bo.pure fun S w0 r w xs cs hR hxs=>?_⟩
    obtain⟨x,y,hx,hy,rfl⟩:=reals2 hxs
    obtain⟨p,hp,rfl⟩:=real_ptr hx
    cases hy
    exact⟨_,rfl,by
     have q:=congrArg (fun q=>q.andThen fun a w'=>Result.ok (Next.value a) w') (Lib.run_unsafeString_none (P:=P) w t u ty (some ⟨p.1,o,none⟩))
     simp[builtin] at q ⊢
     exact q⟩
   | _=>cases hk
  | succ n=>
   obtain⟨i,o,rfl,hk⟩:=qPtr_ok (x:=a) hk
   obtain⟨ho,hk⟩:=ask_ok hk
   obtain rfl:=Nat.eq_of_beq_eq_true ho
   obtain⟨hfl,hk⟩:=ask_ok hk
   have hfl:=ble_le hfl
   obtain⟨d,hd,hk⟩:=tyK_ok hk
   split at hk
   ·rename_i e
    obtain⟨hce,hk⟩:=ask_ok hk
    have hce:=Nat.eq_of_beq_eq_true hce
    obtain⟨h63,hk⟩:=ask_ok hk
    have h63:=ble_le h63
    obtain⟨bt,op,ro,cs,hb,hk⟩:=cellsK_ok hk
    obtain⟨hbt,hk1⟩:=ask_ok hk
    obtain rfl:=Nat.eq_of_beq_eq_true hbt
    rw[takeK_eq,lenK_eq] at hk1
    obtain⟨hl,hk2⟩:=ask_ok hk1
    have hl:=Nat.eq_of_beq_eq_true hl
    obtain⟨s,hs,hbs,hk3⟩:=intsK_ok hk2
    rw[putH_eq] at hk3
    refine⟨_,_,hk3,fun S w0 r w xs cs' hR hxs=>?_⟩
    obtain⟨x,y,hx,hy,rfl⟩:=reals2 hxs
    obtain⟨p,hp,rfl⟩:=real_ptr hx
    cases hy
    have hB:=hR.at hp hb
    obtain⟨c,fz,us,e1,e2,e3,e4,e5,e6,e7⟩:=id hB
    have hus:=reals_take (n+1) e3
    rw[hs] at hus
    have hu:=reals_ints hbs hus
    have hsl:s.length=n+1:=by
     rw[hs] at hl
     simpa [ints] using hl
    have htl:(textOf s).length=n+1:=(text_len s).trans hsl
    have hle:n+1≤p.2:=by
     rw[List.length_take] at hl
     omega
    have hrun:=Lib.run_unsafeString_row (P:=P) (w:=w) t u ty bt hd hce p.1 p.2 (by simp[World.shape?,e1,e2]) (textOf s) (by intro q; rw[q] at htl; simp at htl) (by omega) (by omega) (fun j x hj=>by
     rw[addr_add]
     refine cell_of hB e3 ?_
     have h1:(us.take (n+1))[j]?=some (.int .u8 x.toNat):=by
      rw[hu]; simp[bv,hj]
     rw[List.getElem?_take] at h1
     split at h1
     ·simpa using h1
     ·cases h1)
    rw[htl] at hrun
    have hfr:(w.freeze ⟨p.1,0,none⟩ (n+1)).heap[p.1]?=some (.cells c bt (if fz.1 == fz.2 then (0,0+(n+1)) else (min fz.1 0,max fz.2 (0+(n+1))))):=by
     simp only[World.freeze,if_neg (show ¬(n+1=0) by omega)]
     rw[Array.getElem?_modify,if_pos rfl,e1]
     obtain⟨lo,hi⟩:=fz
     rfl
    refine⟨r,w.freeze ⟨p.1,0,none⟩ (n+1),.string (B (textOf s)),Ext.refl r,hR.put hfl hp hb ⟨rfl,rfl,rfl,by simp[World.freeze],fun j hj hn=>?_⟩ ⟨c,_,us,hfr,e2,e3,e4,e5,e6,fun q=>by cases q⟩,by simp only[real]; rw[if_pos hbs],?_⟩
    ·have hn:j≠p.1:=hn
     simp[World.freeze,Array.getElem?_modify,Ne.symm hn]
    ·have q:=congrArg (fun q=>q.andThen fun a w'=>Result.ok (Next.value a) w') hrun
     simp[builtin] at q ⊢
     exact q
   ·cases hk
end
end Go.Proofs.YtbhbdeelpopgoaaGreatDoor.E

namespace Go.Proofs.YtbhbdeelpopgoaaGreatDoor.E
open Go Go.RowKit H
abbrev KV:=AV→Hp→Bool
abbrev CallF:=FuncId→List AV→Hp→KV→KV→Bool
abbrev Hd:=Program→Nat→CallF→Hp→Tr AV→TypeId→KV→KV→Bool
section
variable {P : Program} {fl : Nat} {env : Tr AV} {h : Hp} {ty : TypeId}
def CallOk(P:Program)(fl:Nat)(call:CallF):Prop:=∀f vs h kr kp,call f vs h kr kp=true→
 (∃v h',kr v h'=true∧∀S w0 r w xs,Rel S w0 fl r h w→reals r vs=some xs→Calls P f xs.toArray w fun e w'=>∃r' x,e = .returned x∧Ext r r'∧Rel S w0 fl r' h' w'∧real r' v=some x)∨
 (∃v h',kp v h'=true∧∀S w0 r w xs,Rel S w0 fl r h w→reals r vs=some xs→Calls P f xs.toArray w fun e w'=>∃r' x,e = .panicked [{v:=x,recovered:=false}]∧Ext r r'∧Rel S w0 fl r' h' w'∧real r' v=some x)
noncomputable def hBuiltin(b:Builtin)(ts:Array TypeId)(vs:List AV)(P:Program)(fl:Nat)(h:Hp)(k:KV):Bool:=Builtin.rec (motive:=fun _=>Bool)
 (two2 vs fun a b=>tsK ts 0 fun t=>tsK ts 1 fun u=>hAppend P fl t u a b h k) (hCap P ts vs fun v=>k v h) (hClear P fl ts vs h k) no no (hCopy P fl ts vs h k) (hDelete P fl ts vs h k) no (hLen P ts vs h fun v=>k v h) no (hMinMax true vs fun v=>k v h) (hMinMax false vs fun v=>k v h) no no no no no no no no (hSliceData vs fun v=>k v h) (hUStr P fl ts vs h k) no no no no b
theorem hBuiltin_ok{b:Builtin}{ts:Array TypeId}{vs:List AV}{k:KV}(hk:hBuiltin b ts vs P fl h k=true): ∃v h',k v h'=true∧Bo P fl b ts ty vs h v h':=by
 cases b <;> first|(cases hk; done)|skip
 ·obtain⟨a,b,rfl,hk⟩:=two2_ok hk
  obtain⟨t,ht,hk⟩:=tsK_ok hk
  obtain⟨u,hu,hk⟩:=tsK_ok hk
  obtain⟨v,h',hk,hA⟩:=hAppend_ok (ty:=ty) hk
  refine⟨v,h',hk,fun S w0 r w xs cs hR hxs=>?_⟩
  obtain⟨x,y,hx,hy,rfl⟩:=reals2 hxs
  obtain⟨r',w',z,a1,a2,a3,a4⟩:=hA S w0 r w x y hR hx hy
  refine⟨r',w',z,a1,a2,a3,?_⟩
  have e:(Builtin.append_ ts ty #[x,y]).run P w=(Builtin.append_ #[t,u] ty #[x,y]).run P w:=by
   unfold Builtin.append_
   simp[ht,hu]
  simp[builtin,e,a4]
 ·obtain⟨v,hk,hB⟩:=hCap_ok (P:=P) (fl:=fl) (ty:=ty) (h:=h) hk
  exact⟨v,h,hk,Bo.pure hB⟩
 ·exact hClear_ok hk
 ·exact hCopy_ok hk
 ·exact hDelete_ok hk
 ·obtain⟨v,hk,hB⟩:=hLen_ok (P:=P) (fl:=fl) (ty:=ty) hk
  exact⟨v,h,hk,Bo.pure hB⟩
 ·obtain⟨v,hk,hB⟩:=hMax_ok (P:=P) (fl:=fl) (ty:=ty) (h:=h) (ts:=ts) hk
  exact⟨v,h,hk,Bo.pure hB⟩
 ·obtain⟨v,hk,hB⟩:=hMin_ok (P:=P) (fl:=fl) (ty:=ty) (h:=h) (ts:=ts) hk
  exact⟨v,h,hk,Bo.pure hB⟩
 ·replace hk:hSliceData vs (fun v=>k v h)=true:=hk
  obtain⟨v,hk,hB⟩:=hSliceData_ok (P:=P) (fl:=fl) (ty:=ty) (h:=h) (ts:=ts) hk
  exact⟨v,h,hk,hB⟩
 ·exact hUStr_ok hk
end
end Go.Proofs.YtbhbdeelpopgoaaGreatDoor.E

namespace Go.Proofs.YtbhbdeelpopgoaaGreatDoor.E
open Go Go.RowKit H
noncomputable def qFn(x:AV)(k:FuncId→List AV→List AV→Bool):Bool:=match x with
 | .fn (.func f) a b=>k f a b
 | _=>false
theorem qFn_ok{x:AV}{k:FuncId→List AV→List AV→Bool}(h:qFn x k=true): ∃f a b,x = .fn (.func f) a b∧k f a b=true:=by
 unfold qFn at h
 split at h
 ·exact⟨_,_,_,rfl,h⟩
 ·cases h
noncomputable def qIfc(x:AV)(k:Bool):Bool:=match x with | .ifc _ _=>k|_=>false
theorem qIfc_ok{x:AV}{k:Bool}(h:qIfc x k=true): ∃t v,x = .ifc t v∧k=true:=by
 cases x <;> first|exact⟨_,_,rfl,h⟩|cases h
noncomputable def entK(P:Program)(f:FuncId)(k:Bool):Bool:=fnK P f fun fn=>ife (fn.name == "runtime.NumGoroutine") false (ife fn.body.isSome k false)
theorem entK_ok{P:Program}{f:FuncId}{k:Bool}(h:entK P f k=true):Ent P f∧k=true:=by
 obtain⟨fn,hf,h⟩:=fnK_ok h
 rcases ife_ok h with ⟨_,h⟩|⟨hn,h⟩
 ·cases h
 rcases ife_ok h with ⟨hb,h⟩|⟨_,h⟩
 ·exact⟨Ent.of hf hn hb,h⟩
 ·cases h
noncomputable def hCall(c:Call):Hd:=fun P fl call h env _ k kp=>Callee.rec (motive:=fun _=>Bool)
 (fun f=>evK fl h env f fun f=>qFn f fun f a b=>evsK fl h env c.args.toList fun vs=>catK a vs fun x=>catK x b fun x=>entK P f (call f x h k kp)) (fun _ _=>false)
 (fun b=>evsK fl h env c.args.toList fun vs=>hBuiltin b c.argTypes vs P fl h k) c.callee
noncomputable def noHd:Hd:=fun _ _ _ _ _ _ _ _=>false
noncomputable def opHd(o:Op):Hd:=Op.rec (motive:=fun _=>Hd)
 (fun x _ fl _ h env _ k _=>hMove fl x h env fun v=>k v h) (fun x _ fl _ h env _ k _=>hMove fl x h env fun v=>k v h) (fun c a b _ fl _ h env _ k _=>hPick fl c a b h env fun v=>k v h)
 (fun t P _ _ h _ _ k _=>hAlloc P t h k) (fun t x _ fl _ h env _ k _=>hBox fl t x h env k) (fun t ps P fl _ h env _ k _=>hBuild P fl t ps h env fun v=>k v h) (fun t n ps P fl _ h env _ k _=>hBuildS P fl t n ps h env k)
 (fun t x y z P fl _ h env _ k _=>hUpdate P fl t x y z h env fun h=>k .und h) (fun t x P fl _ h env _ k _=>hLoad P fl t x h env fun v=>k v h) (fun t x y P fl _ h env _ k _=>hStore P fl t x y h env fun h=>k .und h)
 (fun _=>noHd) (fun _=>noHd) (fun x _ fl _ h env _ k _=>hNil fl x h env fun v=>k v h) (fun op t x y _ P fl _ h env _ k _=>hBin P fl op t x y h env fun v=>k v h) (fun op _ x _ fl _ h env _ k _=>hUn fl op x h env fun v=>k v h)
 (fun s t x P fl _ h env _ k _=>hConv P fl s t x h env k) (fun _ _=>noHd) (fun t x P fl _ h env _ k _=>hIface P fl t x h env fun v=>k v h) (fun fn a b _ fl _ h env _ k _=>hFunc fl fn a b h env fun v=>k v h)
 (fun t n _ _ _ h _ _ k _=>hMakeMap t n h k) (fun _ _=>noHd) (fun t x y P fl _ h env _ k _=>hMakeS P fl t x y h env k) (fun t x lo hi mx P fl _ h env _ k _=>hSlice P fl t x lo hi mx h env fun v=>k v h)
 (fun t x i P fl _ h env _ k _=>hFAddr P fl t x i h env fun v=>k v h) (fun t x i P fl _ h env _ k _=>hField P fl t x i h env fun v=>k v h) (fun t x y P fl _ h env _ k _=>hIAddr P fl t x y h env fun v=>k v h) (fun t x y P fl _ h env _ k _=>hIndex P fl t x y h env fun v=>k v h)
 (fun t x y c P fl _ h env _ k _=>hLookup P fl t x y c h env fun v=>k v h) (fun t x y z P fl _ h env _ k _=>hUpdate P fl t x y z h env fun h=>k .und h) (fun _ _ _=>noHd) (fun _ _ _ _=>noHd)
 (fun t x P fl _ h env _ k _=>hRange P fl t x h env k) (fun x b _ fl _ h env _ k _=>hNext fl x b h env k) (fun x _ fl _ h env _ k _=>hEntry fl x h env fun v=>k v h) (fun x _ t c P fl _ h env _ k _=>hAssert P fl x t c h env fun v=>k v h) (fun x i _ fl _ h env _ k _=>hExt fl x i h env fun v=>k v h)
 hCall (fun _=>noHd) (fun _=>noHd) (fun x _ fl _ h env _ _ kp=>evK fl h env x fun v=>qIfc v (kp v h)) (fun _ _=>noHd) (fun _ _ _=>noHd) (fun _ _=>noHd) o
section
variable {P : Program} {fl : Nat} {env : Tr AV} {h : Hp} {ty : TypeId} {call : CallF}
def OpOk(P:Program)(fl:Nat)(op:Op)(ty:TypeId)(env:Tr AV)(h:Hp)(k kp:KV):Prop:=
 (∃v h',k v h'=true∧Eo P fl op ty env h v h')∨
 (∃v h',k v h'=true∧∀S w0 r f w,FrOk r env f→Rel S w0 fl r h w→∃g xs,(∀dst pos af gd a,Ag f a→(execOp a.eval {dst:=dst,op:=op,type:=ty,pos:=pos,after:=af,guard:=gd}).run P w = .ok (.enter g xs) w)∧Calls P g xs w fun e w'=>∃r' x,e = .returned x∧Ext r r'∧Rel S w0 fl r' h' w'∧real r' v=some x)∨
 (∃v h',kp v h'=true∧∀S w0 r f w,FrOk r env f→Rel S w0 fl r h w→∃g xs,(∀dst pos af gd a,Ag f a→(execOp a.eval {dst:=dst,op:=op,type:=ty,pos:=pos,after:=af,guard:=gd}).run P w = .ok (.enter g xs) w)∧Calls P g xs w fun e w'=>∃r' x,e = .panicked [{v:=x,recovered:=false}]∧Ext r r'∧Rel S w0 fl r' h' w'∧real r' v=some x)∨
 (∃v,kp v h=true∧(∀c,op≠.defer c)∧∀S w0 r f w,FrOk r env f→Rel S w0 fl r h w→∃x,real r v=some x∧∀dst pos af gd a,Ag f a→(execOp a.eval {dst:=dst,op:=op,type:=ty,pos:=pos,after:=af,guard:=gd}).run P w = .halt (.panic x) w)
theorem OpOk.yo{op:Op}{k:KV}{kp:KV}(hh : ∃v,k v h=true∧Yo P fl op ty env h v):OpOk P fl op ty env h k kp:=by
 obtain⟨v,hk,y⟩:=hh
 exact .inl ⟨v,h,hk,y.eo⟩
theorem hCall_ok{c:Call}{k kp:KV}(hc:CallOk P fl call)(hk:hCall c P fl call h env ty k kp=true):OpOk P fl (.call c) ty env h k kp:=by
 obtain⟨callee,args,ats⟩:=c
 cases callee with
 | value f=>
  obtain⟨v,hk,h2⟩:=evK_ok (show evK fl h env f (fun f=>qFn f fun f a b=>evsK fl h env args.toList fun vs=>catK a vs fun x=>catK x b fun x=>entK P f (call f x h k kp))=true from hk)
  obtain⟨g,a,b,rfl,hk⟩:=qFn_ok hk
  obtain⟨vs,hk,h3⟩:=evsK_ok hk
  rw[catK_eq,catK_eq] at hk
  obtain⟨he,hk⟩:=entK_ok hk
  have run : ∀S w0 r fr w,FrOk r env fr→Rel S w0 fl r h w→∃xs:List Value,reals r (a++vs++b)=some xs∧∀dst pos af gd ac,Ag fr ac→(execOp ac.eval {dst:=dst,op:= .call {callee:= .value f,args:=args,argTypes:=ats},type:=ty,pos:=pos,after:=af,guard:=gd}).run P w = .ok (.enter g xs.toArray) w:=by
   intro S w0 r fr w hf hR
   obtain⟨u,hu,hx⟩:=h2 S w0 r fr w hf hR
   obtain⟨us,hus,hl⟩:=h3 S w0 r fr w hf hR
   obtain⟨x,y,hx1,hy1,rfl⟩:=real_fn hu
   refine⟨x++us++y,reals_app (reals_app hx1 hus) hy1,fun dst pos af gd ac ha=>?_⟩
   have e1:args.map ac.eval=us.toArray:=by apply Array.ext'; simp[hl ac ha]
   have e2:=fun aa=>he.out aa w
   simp[execOp,resolve,ha.eval hx,Deferred.ofValue,invoke,e1,e2]
  rcases hc _ _ _ _ _ hk with ⟨v,h',hk,hC⟩|⟨v,h',hk,hC⟩
  ·refine .inr (.inl ⟨v,h',hk,fun S w0 r fr w hf hR=>?_⟩)
   obtain⟨xs,hxs,hr⟩:=run S w0 r fr w hf hR
   exact⟨g,_,hr,hC S w0 r w xs hR hxs⟩
  ·refine .inr (.inr (.inl ⟨v,h',hk,fun S w0 r fr w hf hR=>?_⟩))
   obtain⟨xs,hxs,hr⟩:=run S w0 r fr w hf hR
   exact⟨g,_,hr,hC S w0 r w xs hR hxs⟩
 | invoke f m=>cases hk
 | builtin b=>
  obtain⟨vs,hk,h3⟩:=evsK_ok (show evsK fl h env args.toList (fun vs=>hBuiltin b ats vs P fl h k)=true from hk)
  obtain⟨v,h',hk,hB⟩:=hBuiltin_ok (ty:=ty) hk
  refine .inl ⟨v,h',hk,fun S w0 r fr w hf hR=>?_⟩
  obtain⟨us,hus,hl⟩:=h3 S w0 r fr w hf hR
  obtain⟨r',w',x,a1,a2,a3,a4⟩:=hB S w0 r w us (args.map fun | .const _=>true|_=>false) hR hus
  refine⟨r',w',.value x,a1,a2,.inl ⟨x,rfl,a3⟩,fun dst pos af gd ac ha=>?_⟩
  have e1:args.map ac.eval=us.toArray:=by apply Array.ext'; simp[hl ac ha]
  simp only[execOp,resolve,Sem.run_bind,Sem.run_pure,Result.andThen_ok,invoke,e1]
  exact a4
theorem opHd_ok{o:Op}{k kp:KV}(hc:CallOk P fl call)(hk:opHd o P fl call h env ty k kp=true):OpOk P fl o ty env h k kp:=by
 cases o <;> first|(cases hk; done)|skip
 case move x=>obtain⟨v,a,b,_⟩:=hMove_ok (P:=P) (ty:=ty) hk; exact .yo ⟨v,a,b⟩
 case assign x=>obtain⟨v,a,_,b⟩:=hMove_ok (P:=P) (ty:=ty) hk; exact .yo ⟨v,a,b⟩
 case pick c a b=>exact .yo (hPick_ok hk)
 case alloc t=>exact .inl (hAlloc_ok hk)
 case box t x=>exact .inl (hBox_ok hk)
 case build t ps=>exact .yo (hBuild_ok hk)
 case buildSlice t n ps=>exact .inl (hBuildS_ok hk)
 case insert t x y z=>obtain⟨h',a,_,b⟩:=hUpdate_ok (ty:=ty) hk; exact .inl ⟨_,h',a,b⟩
 case load t x=>exact .yo (hLoad_ok hk)
 case store t x y=>obtain⟨h',a,b⟩:=hStore_ok (ty:=ty) hk; exact .inl ⟨_,h',a,b⟩
 case nilCheck x=>exact .yo (hNil_ok hk)
 case binOp op t x y yt=>exact .yo (hBin_ok hk)
 case unOp op t x=>exact .yo (hUn_ok hk)
 case convert s t x=>exact .inl (hConv_ok hk)
 case makeInterface t x=>exact .yo (hIface_ok hk)
 case makeFunc fn a b=>exact .yo (hFunc_ok hk)
 case makeMap t n=>exact .inl (hMakeMap_ok hk)
 case makeSlice t x y=>exact .inl (hMakeS_ok hk)
 case slice t x lo hi mx=>exact .yo (hSlice_ok hk)
 case fieldAddr t x i=>exact .yo (hFAddr_ok hk)
 case field t x i=>exact .yo (hField_ok hk)
 case indexAddr t x y=>exact .yo (hIAddr_ok hk)
 case index t x y=>exact .yo (hIndex_ok hk)
 case lookup t x y c=>exact .yo (hLookup_ok hk)
 case mapUpdate t x y z=>obtain⟨h',a,b,_⟩:=hUpdate_ok (ty:=ty) hk; exact .inl ⟨_,h',a,b⟩
 case range t x=>exact .inl (hRange_ok hk)
 case next x b=>exact .inl (hNext_ok hk)
 case entry x=>exact .yo (hEntry_ok hk)
 case typeAssert x xt t c=>exact .yo (hAssert_ok hk)
 case extract x i=>exact .yo (hExt_ok hk)
 case call c=>exact hCall_ok hc hk
 case panic x=>
  obtain⟨v,hk,h2⟩:=evK_ok (show evK fl h env x (fun v=>qIfc v (kp v h))=true from hk)
  obtain⟨t,q,rfl,hk⟩:=qIfc_ok hk
  refine .inr (.inr (.inr ⟨_,hk,by simp,fun S w0 r f w hf hR=>?_⟩))
  obtain⟨u,hu,hx⟩:=h2 S w0 r f w hf hR
  refine⟨u,hu,fun dst pos af gd a ha=>?_⟩
  obtain⟨y,hy,rfl⟩:=real_ifc hu
  simp[execOp,ha.eval hx,Instr.panic,goPanic,Sem.run,Result.andThen]
end
end Go.Proofs.YtbhbdeelpopgoaaGreatDoor.E

namespace Go.Proofs.YtbhbdeelpopgoaaGreatDoor.E
open Go Go.RowKit H
inductive Out where
 | nm
 | ex (i:Nat)
 | ret
 | pan (v:AV)
abbrev KS:=Out→Tr AV→Hp→Bool
def putO(f:Fr)(d:Option Tmp)(v:Value):Fr:=match d with
 | some d=>f.put d v
 | none=>f
def Ends(S:Nat→Prop)(w0:World)(fl n:Nat)(ds:List Deferred)(r:Ren)(out:Out)(env:Tr AV)(h:Hp)(Q:Post):Prop:=
 ∀r' f w,f.n=n→f.ds=ds→Ext r r'→FrOk r' env f→Rel S w0 fl r' h w→match out with
  | .nm=>Q .normal f w
  | .ex i=>Q (.exit i) f w
  | .ret=>Q .ret f w
  | .pan v=>∀u,real r' v=some u→Q (.panic [{v:=u,recovered:=false}]) f w
theorem Ends.ext{S:Nat→Prop}{w0:World}{fl n:Nat}{ds:List Deferred}{r r1:Ren}{out:Out}{env:Tr AV}{h:Hp}{Q:Post}(e:Ends S w0 fl n ds r out env h Q)(x:Ext r r1):Ends S w0 fl n ds r1 out env h Q:=
 fun r' f w a b c d e'=>e r' f w a b (x.trans c) d e'
section
variable {M : Option (Option Nat)} {P : Program} {ops : Array Oper} {Q : Post} {rest : List Oper} {f : Fr} {w w' : World}
theorem Ag.putO{f:Fr}{a:Act}(ha:Ag f a){d:Option Tmp}(v:Value)(hd : ∀t,d=some t→Nat.blt t f.n=true):Ag (putO f d v) (a.put d v):=by
 cases d with
 | none=>exact ha
 | some d=>exact ha.put v (hd d rfl)
theorem RW.gen{o:Oper}(hg:o.guard=none)(hd : ∀t,o.dst=some t→Nat.blt t f.n=true){x:Next}{u:Value}(hx:x = .value u∨(x = .skip∧u=undef))(hr : ∀a,Ag f a→(execOp a.eval o).run P w = .ok x w')(k:RW M P ops Q rest (putO f o.dst u) w'):RW M P ops Q (o::rest) f w:=by
 intro a ha
 refine lwp_plain hg fun K hK=>?_
 rcases hx with rfl|⟨rfl,rfl⟩
 ·exact owp_val (hr a ha) (hK _ _ (k _ (Ag.putO ha u hd)))
 ·exact owp_skip (hr a ha) (hK _ _ (k _ (Ag.putO ha undef hd)))
theorem RW.callv{o:Oper}(hg:o.guard=none)(hd : ∀t,o.dst=some t→Nat.blt t f.n=true){g:FuncId}{xs:Array Value}(hr : ∀a,Ag f a→(execOp a.eval o).run P w = .ok (.enter g xs) w){R:Ending→World→Prop}(h:Calls P g xs w R)
  (hq : ∀e w',R e w'→match e with
   | .returned v=>RW M P ops Q rest (putO f o.dst v) w'
   | .panicked chain=>Q (.panic chain) f w'
   | .outgrown=>False):RW M P ops Q (o::rest) f w:=by
 intro a ha
 refine lwp_plain hg fun K hK=>owp_enter (hr a ha) h fun e w' hR=>?_
 have q:=hq e w' hR
 cases e with
 | returned v=>exact hK _ _ (q _ (Ag.putO ha v hd))
 | panicked ch=>exact⟨f,ha,q⟩
 | outgrown=>exact q.elim
theorem RW.pass{o:Oper}{j:Nat}{b:Bool}{t:Tmp}(hg:o.guard=some (j,b))(hj:(ops[j]?).bind (·.dst)=some t)(hn:Nat.blt t f.n=true)(hv:H.look f.e t=some (.bool b))(k:RW M P ops Q ({o with guard:=none}::rest) f w):RW M P ops Q (o::rest) f w:=by
 obtain⟨dst,op,ty,pos,af,g⟩:=o
 cases hg
 exact RW.on hj hn hv k
theorem RW.miss{o:Oper}{j:Nat}{b:Bool}{t:Tmp}{u:Value}(hg:o.guard=some (j,b))(hj:(ops[j]?).bind (·.dst)=some t)(hn:Nat.blt t f.n=true)(hv:H.look f.e t=some u)(hu:u = .bool (!b)∨u=undef)(hd : ∀t,o.dst=some t→Nat.blt t f.n=true)(k:RW M P ops Q rest (putO f o.dst undef) w):RW M P ops Q (o::rest) f w:=by
 obtain⟨dst,op,ty,pos,af,g⟩:=o
 cases hg
 intro a ha
 have hw:Region.wanted ({dst:=dst,op:=op,type:=ty,pos:=pos,after:=af,guard:=some (j,b)}:Oper) (yielded ops a.tmps)=false:=by
  rcases hu with rfl|rfl
  ·cases b <;> simp[Region.wanted,yields ha hj hn hv]
  ·have h:=ha.slot t _ hv
   have hlt:t < a.tmps.size:=by rw[ha.size]; exact blt_lt hn
   have h2:a.tmps[t]?=some undef:=by
    rw[Array.getD_eq_getD_getElem?] at h
    rw[Array.getElem?_eq_getElem hlt] at h ⊢
    simpa using h
   cases b <;> simp[Region.wanted,yielded,hj,h2,undef]
 cases M with
 | none=>
  unfold lwp wpList
  rw[hw]
  simp only[Bool.false_eq_true,if_false]
  exact k _ (Ag.putO ha undef hd)
 | some r=>
  change wpListIn (Rd1 r) 0 P ops (lift Q) _ a w
  unfold wpListIn
  rw[hw]
  simp only[Bool.false_eq_true,if_false]
  exact⟨fun _ _=>trivial,k _ (Ag.putO ha undef hd)⟩
end
section
variable {P : Program} {fl n : Nat} {call : CallF}
noncomputable def setE(n:Nat)(d:Option Tmp)(v:AV)(env:Tr AV)(k:Tr AV→Bool):Bool:=Option.rec (motive:=fun _=>Bool) (k env) (fun d=>ask (Nat.blt d n) (ask (Nat.blt d 4096) (Tr.setK (some v) (bits d) env k))) d
theorem setE_ok{d:Option Tmp}{v:AV}{env:Tr AV}{k:Tr AV→Bool}(hk:setE n d v env k=true): ∃env',k env'=true∧(∀t,d=some t→Nat.blt t n=true)∧∀(r:Ren) (f:Fr) (u:Value),FrOk r env f→real r v=some u→FrOk r env' (putO f d u):=by
 cases d with
 | none=>exact⟨env,hk,(fun t c=>by cases c),fun r f u hf _=>hf⟩
 | some d=>
  obtain⟨h1,hk⟩:=ask_ok hk
  obtain⟨h2,hk⟩:=ask_ok hk
  rw[Tr.setK_eq] at hk
  exact⟨_,hk,(fun t c=>by cases c; exact h1),fun r f u hf hu=>hf.put (Nat.lt_of_lt_of_le (blt_lt h2) (by decide)) hu⟩
noncomputable def stepK(P:Program)(fl n:Nat)(call:CallF)(o:Oper)(env:Tr AV)(h:Hp)(k:KS):Bool:=opHd o.op P fl call h env o.type (fun v h=>setE n o.dst v env fun env=>k .nm env h) (fun v h=>ask (Option.rec (motive:=fun _=>Bool) true (fun d=>Nat.blt d n) o.dst) (k (.pan v) env h))
noncomputable def opsK(P:Program)(fl n:Nat)(call:CallF)(ops:Array Oper)(l:List Oper):Tr AV→Hp→KS→Bool:=List.rec (motive:=fun _=>Tr AV→Hp→KS→Bool) (fun env h k=>k .nm env h)
 (fun o _ ih env h k=>Option.rec (motive:=fun _=>Bool) (stepK P fl n call o env h fun out env h=>Out.rec (motive:=fun _=>Bool) (ih env h k) (fun _=>false) false (fun v=>k (.pan v) env h) out)
  (fun g=>someK ((ops[g.1]?).bind (·.dst)) fun t=>ask (Nat.blt t n) (ask (Nat.blt t 4096) (getV t env fun v=>AV.rec (motive_1:=fun _=>Bool) (motive_2:=fun _=>Bool)
   (setE n o.dst .und env fun env=>ih env h k)
   (fun b=>Bool.rec (motive:=fun _=>Bool) (Bool.rec (motive:=fun _=>Bool) (stepK P fl n call o env h fun out env h=>Out.rec (motive:=fun _=>Bool) (ih env h k) (fun _=>false) false (fun v=>k (.pan v) env h) out) (setE n o.dst .und env fun env=>ih env h k) g.2)
    (Bool.rec (motive:=fun _=>Bool) (setE n o.dst .und env fun env=>ih env h k) (stepK P fl n call o env h fun out env h=>Out.rec (motive:=fun _=>Bool) (ih env h k) (fun _=>false) false (fun v=>k (.pan v) env h) out) g.2) b)
   (fun _ _=>no) (fun _=>no) no (fun _ _=>no) no (fun _ _ _ _=>no) (fun _ _ _ _=>no) (fun _ _ _ _=>no) no (fun _=>no) no (fun _ _ _ _ _=>no) no (fun _ _ _=>no) (fun _ _=>no) (fun _ _=>no) (fun _ _ _ _=>no) (fun _ _ _ _ _=>no) no (fun _ _ _ _=>no) v))) o.guard) l
def OpsOk(P:Program)(fl n:Nat)(ops:Array Oper)(l:List Oper)(env:Tr AV)(h:Hp)(out:Out)(env':Tr AV)(h':Hp):Prop:=∀(M:Option (Option Nat)) S w0 r f w Q,f.n=n→FrOk r env f→Rel S w0 fl r h w→Ends S w0 fl n f.ds r out env' h' Q→RW M P ops Q l f w
theorem putO_n(f:Fr)(d:Option Tmp)(v:Value):(putO f d v).n=f.n∧(putO f d v).ds=f.ds:=by cases d <;> exact⟨rfl,rfl⟩
theorem stepK_ok(hc:CallOk P fl call){o:Oper}{env:Tr AV}{h:Hp}{k:KS}(hk:stepK P fl n call o env h k=true):
  (∃env' h',k .nm env' h'=true∧∀(M:Option (Option Nat)) S w0 r f w Q ops rest,f.n=n→FrOk r env f→Rel S w0 fl r h w→(∀r' f' w',f'.n=n→f'.ds=f.ds→Ext r r'→FrOk r' env' f'→Rel S w0 fl r' h' w'→RW M P ops Q rest f' w')→RW M P ops Q ({o with guard:=none}::rest) f w)∨
  (∃v env' h',k (.pan v) env' h'=true∧∀(M:Option (Option Nat)) S w0 r f w Q ops rest,f.n=n→FrOk r env f→Rel S w0 fl r h w→Ends S w0 fl n f.ds r (.pan v) env' h' Q→RW M P ops Q ({o with guard:=none}::rest) f w):=by
 rcases opHd_ok hc hk with ⟨v,h',hk,hE⟩|⟨v,h',hk,hE⟩|⟨v,h',hk,hE⟩|⟨v,hk,hnd,hE⟩
 ·obtain⟨env',hk,hd,hf'⟩:=setE_ok hk
  refine .inl ⟨env',h',hk,fun M S w0 r f w Q ops rest hn hf hR hQ=>?_⟩
  obtain⟨r',w',x,hx,hR',ho,hr⟩:=hE S w0 r f w hf hR
  rcases ho with ⟨u,rfl,hu⟩|⟨rfl,rfl⟩
  ·exact RW.gen rfl (by rw[hn]; exact hd) (.inl rfl) (fun a ha=>hr _ _ _ _ a ha) (hQ r' _ w' ((putO_n _ _ _).1.trans hn) (putO_n _ _ _).2 hx (hf' r' f u (hf.mono hx) hu) hR')
  ·exact RW.gen rfl (by rw[hn]; exact hd) (.inr ⟨rfl,rfl⟩) (fun a ha=>hr _ _ _ _ a ha) (hQ r' _ w' ((putO_n _ _ _).1.trans hn) (putO_n _ _ _).2 hx (hf' r' f undef (hf.mono hx) rfl) hR')
 ·obtain⟨env',hk,hd,hf'⟩:=setE_ok hk
  refine .inl ⟨env',h',hk,fun M S w0 r f w Q ops rest hn hf hR hQ=>?_⟩
  obtain⟨g,xs,hr,hC⟩:=hE S w0 r f w hf hR
  refine RW.callv rfl (by rw[hn]; exact hd) (fun a ha=>hr _ _ _ _ a ha) hC fun e w' hR'=>?_
  obtain⟨r',x,rfl,hx,hR2,hu⟩:=hR'
  exact hQ r' _ w' ((putO_n _ _ _).1.trans hn) (putO_n _ _ _).2 hx (hf' r' f x (hf.mono hx) hu) hR2
 ·obtain⟨hd,hk⟩:=ask_ok hk
  have hd : ∀t,o.dst=some t→Nat.blt t n=true:=fun t e=>by rw[e] at hd; exact hd
  refine .inr ⟨v,env,h',hk,fun M S w0 r f w Q ops rest hn hf hR hQ=>?_⟩
  obtain⟨g,xs,hr,hC⟩:=hE S w0 r f w hf hR
  refine RW.callv rfl (by rw[hn]; exact hd) (fun a ha=>hr _ _ _ _ a ha) hC fun e w' hR'=>?_
  obtain⟨r',x,rfl,hx,hR2,hu⟩:=hR'
  exact hQ r' f w' hn rfl hx (hf.mono hx) hR2 x hu
 ·obtain⟨hd,hk⟩:=ask_ok hk
  refine .inr ⟨v,env,h,hk,fun M S w0 r f w Q ops rest hn hf hR hQ=>?_⟩
  obtain⟨x,hx,hr⟩:=hE S w0 r f w hf hR
  exact RW.panics rfl hnd (fun a ha=>hr _ _ _ _ a ha) (hQ r f w hn rfl (Ext.refl r) hf hR x hx)
theorem opsK_ok(hc:CallOk P fl call){ops:Array Oper}: ∀{l:List Oper} {env:Tr AV} {h:Hp} {k:KS},opsK P fl n call ops l env h k=true→∃out env' h',k out env' h'=true∧OpsOk P fl n ops l env h out env' h'
 | [],env,h,k,hk=>⟨.nm,env,h,hk,fun M S w0 r f w Q hn hf hR hE=>RW.nil (hE r f w hn rfl (Ext.refl r) hf hR)⟩
 | o::rest,env,h,k,hk=>by
  have step:(stepK P fl n call o env h fun out env h=>Out.rec (motive:=fun _=>Bool) (opsK P fl n call ops rest env h k) (fun _=>false) false (fun v=>k (.pan v) env h) out)=true→∃out env' h',k out env' h'=true∧OpsOk P fl n ops ({o with guard:=none}::rest) env h out env' h':=by
   intro hk
   rcases stepK_ok hc hk with ⟨env1,h1,hk,hs⟩|⟨v,env1,h1,hk,hs⟩
   ·obtain⟨out,env',h',hk,hO⟩:=opsK_ok hc (l:=rest) hk
    refine⟨out,env',h',hk,fun M S w0 r f w Q hn hf hR hE=>hs M S w0 r f w Q ops rest hn hf hR fun r' f' w' a b c d e=>?_⟩
    exact hO M S w0 r' f' w' Q a d e (b▸hE.ext c)
   ·exact⟨.pan v,env1,h1,hk,fun M S w0 r f w Q hn hf hR hE=>hs M S w0 r f w Q ops rest hn hf hR hE⟩
  have skip : ∀(j:Nat) (b:Bool) (t:Tmp) (v:AV),o.guard=some (j,b)→(ops[j]?).bind (·.dst)=some t→Nat.blt t n=true→Nat.blt t 4096=true→Tr.get (bits t) env=some v→(v = .bool (!b)∨v = .und)→(setE n o.dst .und env fun env=>opsK P fl n call ops rest env h k)=true→∃out env' h',k out env' h'=true∧OpsOk P fl n ops (o::rest) env h out env' h':=by
   intro j b t v hg hj ht ht2 hv hb hk
   obtain⟨env1,hk,hd,hf'⟩:=setE_ok hk
   obtain⟨out,env',h',hk,hO⟩:=opsK_ok hc (l:=rest) hk
   refine⟨out,env',h',hk,fun M S w0 r f w Q hn hf hR hE=>?_⟩
   obtain⟨u,hu,hl⟩:=hf t v (Nat.lt_of_lt_of_le (blt_lt ht2) (by decide)) hv
   have hu2:u = .bool (!b)∨u=undef:=by
    rcases hb with rfl|rfl
    ·exact .inl (real_bool hu)
    ·cases hu; exact .inr rfl
   refine RW.miss hg hj (by rw[hn]; exact ht) hl hu2 (by rw[hn]; exact hd) ?_
   exact hO M S w0 r _ w Q ((putO_n _ _ _).1.trans hn) (hf' r f undef hf rfl) hR (by rw[(putO_n _ _ _).2]; exact hE)
  have pass : ∀(j:Nat) (b:Bool) (t:Tmp),o.guard=some (j,b)→(ops[j]?).bind (·.dst)=some t→Nat.blt t n=true→Nat.blt t 4096=true→Tr.get (bits t) env=some (.bool b)→(∃out env' h',k out env' h'=true∧OpsOk P fl n ops ({o with guard:=none}::rest) env h out env' h')→∃out env' h',k out env' h'=true∧OpsOk P fl n ops (o::rest) env h out env' h':=by
   intro j b t hg hj ht ht2 hv ⟨out,env',h',hk,hO⟩
   refine⟨out,env',h',hk,fun M S w0 r f w Q hn hf hR hE=>?_⟩
   obtain⟨u,hu,hl⟩:=hf t _ (Nat.lt_of_lt_of_le (blt_lt ht2) (by decide)) hv
   have:=real_bool hu; subst this
   exact RW.pass hg hj (by rw[hn]; exact ht) hl (hO M S w0 r f w Q hn hf hR hE)
  obtain⟨dst,op,ty,pos,af,g⟩:=o
  cases g with
  | none=>exact step hk
  | some g=>
   obtain⟨j,b⟩:=g
   obtain⟨t,hj,hk⟩:=someK_ok hk
   obtain⟨ht,hk⟩:=ask_ok hk
   obtain⟨ht2,hk⟩:=ask_ok hk
   obtain⟨v,hv,hk⟩:=getV_ok hk
   cases v <;> first|(cases hk; done)|skip
   ·exact skip j b t _ rfl hj ht ht2 hv (.inr rfl) hk
   ·rename_i c
    cases c <;> cases b
    ·exact pass j _ t rfl hj ht ht2 hv (step hk)
    ·exact skip j _ t _ rfl hj ht ht2 hv (.inl rfl) hk
    ·exact skip j _ t _ rfl hj ht ht2 hv (.inl rfl) hk
    ·exact pass j _ t rfl hj ht ht2 hv (step hk)
end
end Go.Proofs.YtbhbdeelpopgoaaGreatDoor.E

namespace Go.Proofs.YtbhbdeelpopgoaaGreatDoor.E
open Go Go.RowKit H
def CodeM(Ms:Option (Option Nat)→Prop)(P:Program)(fl n:Nat)(c:Code)(env:Tr AV)(h:Hp)(out:Out)(env':Tr AV)(h':Hp):Prop:=∀M,Ms M→∀S w0 r f w Q,f.n=n→FrOk r env f→Rel S w0 fl r h w→Ends S w0 fl n f.ds r out env' h' Q→CW M P Q c f w
abbrev DrawF:=Array Oper→Tr AV→Hp→KS→Bool
abbrev CodeOk:=CodeM (fun M=>M=none)
def DrawM(Ms:Option (Option Nat)→Prop)(P:Program)(fl n:Nat)(G:Array Oper→Prop)(dr:DrawF):Prop:=∀ops env h k,G ops→dr ops env h k=true→∃out env' h',k out env' h'=true∧∀id,CodeM Ms P fl n (.region id ops true) env h out env' h'
abbrev DrawOk:=DrawM (fun M=>M=none)
def Regs(G:Array Oper→Prop):Code→Prop
 | .region _ ops true=>G ops
 | .seq a b=>Regs G a∧Regs G b
 | .cond _ a b=>Regs G a∧Regs G b
 | .block _ a=>Regs G a
 | .loop a=>Regs G a
 | _=>True
noncomputable def onNm(out:Out)(a:Tr AV→Hp→KS→Bool)(env:Tr AV)(h:Hp)(k:KS):Bool:=Out.rec (motive:=fun _=>Bool) (a env h k) (fun i=>k (.ex i) env h) (k .ret env h) (fun v=>k (.pan v) env h) out
noncomputable def onBlk(i:Nat)(out:Out)(env:Tr AV)(h:Hp)(k:KS):Bool:=Out.rec (motive:=fun _=>Bool) (k .nm env h) (fun j=>ife (Nat.beq j i) (k .nm env h) (k (.ex j) env h)) (k .ret env h) (fun v=>k (.pan v) env h) out
noncomputable def loopK(body:Tr AV→Hp→KS→Bool)(m:Nat):Tr AV→Hp→KS→Bool:=Nat.rec (motive:=fun _=>Tr AV→Hp→KS→Bool) (fun _ _ _=>false) (fun _ ih env h k=>body env h fun out env h=>onNm out ih env h k) m
noncomputable def condK(P:Program)(fl:Nat)(x:Operand)(env:Tr AV)(h:Hp)(a b:Bool):Bool:=evK fl h env x fun v=>qBool v fun c=>ife c a b
noncomputable def codeK(P:Program)(fl n m:Nat)(call:CallF)(dr:DrawF)(c:Code):Tr AV→Hp→KS→Bool:=Code.rec (motive:=fun _=>Tr AV→Hp→KS→Bool)
 (fun env h k=>k .nm env h) (fun _ ops d env h k=>ife d (dr ops env h k) (opsK P fl n call ops ops.toList env h k)) (fun _ _ ia ib env h k=>ia env h fun out env h=>onNm out ib env h k)
 (fun x _ _ ia ib env h k=>condK P fl x env h (ia env h k) (ib env h k)) (fun i _ ib env h k=>ib env h fun out env h=>onBlk i out env h k) (fun _ ib=>loopK ib m)
 (fun _ _ _ _ _ _ _ _ _=>false) (fun i env h k=>k (.ex i) env h) (fun _ _ _ _ _=>false) (fun _ _ _ _=>false) (fun _ _ _ _=>false) (fun env h k=>k .ret env h) (fun _ _ _ _=>false) c
section
variable {M : Option (Option Nat)} {Ms : Option (Option Nat) → Prop} {P : Program} {fl n : Nat}
theorem CL_of_CW{Q:Post}{c:Code}{f:Fr}{w:World}(hh:CW M P Q c f w):CL M P Q [c] f w:=
 CW.mono hh fun x f w q=>by cases x <;> exact q
theorem cl_nil{Q:Post}{f:Fr}{w:World}(hh:Q .normal f w):CL M P Q [] f w:=hh
theorem CodeM.seq{a b:Code}{env env1 env':Tr AV}{h h1 h':Hp}{out:Out}(ha:CodeM Ms P fl n a env h .nm env1 h1)(hb:CodeM Ms P fl n b env1 h1 out env' h'):CodeM Ms P fl n (.seq a b) env h out env' h':=fun M hM S w0 r f w Q hn hf hR hE=>
 CL.one (CL.seq (ha M hM S w0 r f w _ hn hf hR fun r' f' w' hn' hd hx hf' hR'=>CL_of_CW (hb M hM S w0 r' f' w' Q hn' hf' hR' (hd▸hE.ext hx))))
theorem CodeM.seq0{a b:Code}{env env':Tr AV}{h h':Hp}{out:Out}(ho:out≠.nm)(ha:CodeM Ms P fl n a env h out env' h'):CodeM Ms P fl n (.seq a b) env h out env' h':=fun M hM S w0 r f w Q hn hf hR hE=>
 CL.one (CL.seq (ha M hM S w0 r f w _ hn hf hR fun r' f' w' hn' hd hx hf' hR'=>by
  have:=hE r' f' w' hn' hd hx hf' hR'
  cases out with
  | nm=>exact absurd rfl ho
  | _=>exact this))
inductive Rounds (Ms:Option (Option Nat)→Prop) (P:Program) (fl n:Nat) (c:Code) (out:Out) (env':Tr AV) (h':Hp):Nat→Tr AV→Hp→Prop where
 | last {m env h}:out≠.nm→CodeM Ms P fl n c env h out env' h'→Rounds Ms P fl n c out env' h' m env h
 | more {m env h env1 h1}:CodeM Ms P fl n c env h .nm env1 h1→Rounds Ms P fl n c out env' h' m env1 h1→Rounds Ms P fl n c out env' h' (m+1) env h
theorem Rounds.ok{c:Code}{out:Out}{env':Tr AV}{h':Hp}{m:Nat}{env:Tr AV}{h:Hp}(hr:Rounds Ms P fl n c out env' h' m env h):CodeM Ms P fl n (.loop c) env h out env' h':=by
 intro M hM S w0 r f w Q hn hf hR hE
 refine CL.one (CL.loop (fun m f1 w1=>∃env h r1,Rounds Ms P fl n c out env' h' m env h∧f1.n=n∧f1.ds=f.ds∧Ext r r1∧FrOk r1 env f1∧Rel S w0 fl r1 h w1) m ⟨env,h,r,hr,hn,rfl,Ext.refl r,hf,hR⟩ fun m1 f1 w1 hI=>?_)
 obtain⟨env1,h1,r1,hr1,hn1,hd1,hx1,hf1,hR1⟩:=hI
 cases hr1 with
 | last ho hb=>
  refine CL_of_CW (hb M hM S w0 r1 f1 w1 _ hn1 hf1 hR1 fun r2 f2 w2 hn2 hd2 hx2 hf2 hR2=>?_)
  have:=hE r2 f2 w2 hn2 (hd2.trans hd1) (hx1.trans hx2) hf2 hR2
  cases out with
  | nm=>exact absurd rfl ho
  | _=>exact this
 | more hb hr2=>
  refine CL_of_CW (hb M hM S w0 r1 f1 w1 _ hn1 hf1 hR1 fun r2 f2 w2 hn2 hd2 hx2 hf2 hR2=>?_)
  exact⟨_,Nat.lt_succ_self _,_,_,r2,hr2,hn2,hd2.trans hd1,hx1.trans hx2,hf2,hR2⟩
theorem loopK_ok{c:Code}{body:Tr AV→Hp→KS→Bool}(hb : ∀env h k,body env h k=true→∃out env' h',k out env' h'=true∧CodeM Ms P fl n c env h out env' h'): ∀(m:Nat) (env:Tr AV) (h:Hp) (k:KS),loopK body m env h k=true→∃out env' h',k out env' h'=true∧Rounds Ms P fl n c out env' h' m env h
 | 0,env,h,k,hk=>by cases hk
 | m+1,env,h,k,hk=>by
  obtain⟨out,env1,h1,hk,hc⟩:=hb env h _ hk
  cases out with
  | nm=>
   obtain⟨out,env',h',hk,hr⟩:=loopK_ok hb m env1 h1 k hk
   exact⟨out,env',h',hk,.more hc hr⟩
  | ex i=>exact⟨_,_,_,hk,.last (by simp) hc⟩
  | ret=>exact⟨_,_,_,hk,.last (by simp) hc⟩
  | pan v=>exact⟨_,_,_,hk,.last (by simp) hc⟩
theorem codeK_ok{call:CallF}{dr:DrawF}{m:Nat}{G:Array Oper→Prop}(hc:CallOk P fl call)(hdr:DrawM Ms P fl n G dr)(c:Code):Regs G c→∀(env:Tr AV) (h:Hp) (k:KS),codeK P fl n m call dr c env h k=true→∃out env' h',k out env' h'=true∧CodeM Ms P fl n c env h out env' h':=by
 induction c with
 | skip=>exact fun _ env h k hk=>⟨.nm,env,h,hk,fun M hM S w0 r f w Q hn hf hR hE=>CL.one (CL.skip (cl_nil (hE r f w hn rfl (Ext.refl r) hf hR)))⟩
 | region id ops d=>
  intro hG env h k hk
  rcases ife_ok hk with ⟨rfl,hk⟩|⟨rfl,hk⟩
  ·obtain⟨out,env',h',hk,hO⟩:=hdr ops env h k hG hk
   exact⟨out,env',h',hk,hO id⟩
  ·obtain⟨out,env',h',hk,hO⟩:=opsK_ok hc hk
   refine⟨out,env',h',hk,fun M hM S w0 r f w Q hn hf hR hE=>?_⟩
   have:=CL.one (P:=P) (Q:=Q) (f:=f) (w:=w) (CL.region (id:=id) (l:=ops.toList) (cs:=[]) (by
    refine hO M S w0 r f w _ hn hf hR fun r' f' w' a b c d e=>?_
    have:=hE r' f' w' a b c d e
    cases out <;> exact this))
   simpa using this
 | seq a b iha ihb=>
  intro hG env h k hk
  obtain⟨out,env1,h1,hk,ha⟩:=iha hG.1 env h _ hk
  cases out with
  | nm=>
   obtain⟨out,env',h',hk,hb⟩:=ihb hG.2 env1 h1 k hk
   exact⟨out,env',h',hk,ha.seq hb⟩
  | ex i=>exact⟨_,_,_,hk,ha.seq0 (by simp)⟩
  | ret=>exact⟨_,_,_,hk,ha.seq0 (by simp)⟩
  | pan v=>exact⟨_,_,_,hk,ha.seq0 (by simp)⟩
 | cond x a b iha ihb=>
  intro hG env h k hk
  obtain⟨v,hk,h2⟩:=evK_ok (show evK fl h env x (fun v=>qBool v fun c=>ife c (codeK P fl n m call dr a env h k) (codeK P fl n m call dr b env h k))=true from hk)
  obtain⟨c,rfl,hk⟩:=qBool_ok (x:=v) hk
  rcases ife_ok hk with ⟨rfl,hk⟩|⟨rfl,hk⟩
  ·obtain⟨out,env',h',hk,ha⟩:=iha hG.1 env h k hk
   refine⟨out,env',h',hk,fun M hM S w0 r f w Q hn hf hR hE=>?_⟩
   obtain⟨u,hu,hx⟩:=h2 S w0 r f w hf hR
   have:=real_bool hu; subst this
   exact CL.one (CL.condT hx (CL_of_CW (ha M hM S w0 r f w Q hn hf hR hE)))
  ·obtain⟨out,env',h',hk,ha⟩:=ihb hG.2 env h k hk
   refine⟨out,env',h',hk,fun M hM S w0 r f w Q hn hf hR hE=>?_⟩
   obtain⟨u,hu,hx⟩:=h2 S w0 r f w hf hR
   have:=real_bool hu; subst this
   exact CL.one (CL.condF hx (CL_of_CW (ha M hM S w0 r f w Q hn hf hR hE)))
 | block i b ihb=>
  intro hG env h k hk
  obtain⟨out,env',h',hk,hb⟩:=ihb hG env h _ hk
  have key : ∀out',(∀M S w0 (f:Fr) r Q,Ends S w0 fl n f.ds r out' env' h' Q→Ends S w0 fl n f.ds r out env' h' (blockQ i (CL M P Q []) Q))→CodeM Ms P fl n (.block i b) env h out' env' h':=fun out' hh M hM S w0 r f w Q hn hf hR hE=>
   CL.one (CL.block (CL_of_CW (hb M hM S w0 r f w _ hn hf hR (hh M S w0 f r Q hE))))
  cases out with
  | nm=>exact⟨.nm,_,_,hk,key _ fun M S w0 f r Q hE r' f' w' a b c d e=>hE r' f' w' a b c d e⟩
  | ex j=>
   rcases ife_ok hk with ⟨hj,hk⟩|⟨hj,hk⟩
   ·exact⟨.nm,_,_,hk,key _ fun M S w0 f r Q hE r' f' w' a b c d e=>by
     show blockQ i _ Q (.exit j) f' w'
     simp only[blockQ,hj]
     exact hE r' f' w' a b c d e⟩
   ·exact⟨.ex j,_,_,hk,key _ fun M S w0 f r Q hE r' f' w' a b c d e=>by
     show blockQ i _ Q (.exit j) f' w'
     simp only[blockQ,hj]
     exact hE r' f' w' a b c d e⟩
  | ret=>exact⟨.ret,_,_,hk,key _ fun M S w0 f r Q hE r' f' w' a b c d e=>hE r' f' w' a b c d e⟩
  | pan v=>exact⟨.pan v,_,_,hk,key _ fun M S w0 f r Q hE r' f' w' a b c d e=>hE r' f' w' a b c d e⟩
 | loop b ihb=>
  intro hG env h k hk
  obtain⟨out,env',h',hk,hr⟩:=loopK_ok (ihb hG) m env h k hk
  exact⟨out,env',h',hk,hr.ok⟩
 | exit i=>exact fun _ env h k hk=>⟨.ex i,env,h,hk,fun M hM S w0 r f w Q hn hf hR hE=>CL.one (CL.exit (hE r f w hn rfl (Ext.refl r) hf hR))⟩
 | ret=>exact fun _ env h k hk=>⟨.ret,env,h,hk,fun M hM S w0 r f w Q hn hf hR hE=>CL.one (CL.ret (hE r f w hn rfl (Ext.refl r) hf hR))⟩
 | _=>intro _ env h k hk; cases hk
noncomputable def resK(P:Program)(fl:Nat)(env:Tr AV)(h:Hp)(rs:List ResultVar):(List AV→Bool)→Bool:=List.rec (motive:=fun _=>(List AV→Bool)→Bool) (fun k=>k [])
 (fun r _ ih k=>ResultVar.rec (motive:=fun _=>Bool) (fun t=>evK fl h env (.tmp t) fun v=>ih fun vs=>k (v::vs)) (fun t u=>hLoad P fl u (.tmp t) h env fun v=>ih fun vs=>k (v::vs)) r) rs
noncomputable def oneK(vs:List AV)(k:AV→Bool):Bool:=List.rec (motive:=fun _=>Bool) (k (.tup [])) (fun v t _=>List.rec (motive:=fun _=>Bool) (k v) (fun _ _ _=>k (.tup vs)) t) vs
end
end Go.Proofs.YtbhbdeelpopgoaaGreatDoor.E

set_option linter.constructorNameAsVariable false
namespace Go.Proofs.YtbhbdeelpopgoaaGreatDoor.E
open Go Go.RowKit H
section
variable {P : Program} {fl n : Nat}
abbrev rsM(tmps:Array Value)(r:ResultVar):Sem Value:=match r with
 | .tmp t=>pure (tmps.getD t undef)
 | .cell t u=>do loadVar u (←asAddr (tmps.getD t undef))
theorem resK_ok{env:Tr AV}{h:Hp}: ∀{rs:List ResultVar} {k:List AV→Bool},resK P fl env h rs k=true→∃vs,k vs=true∧∀S w0 r f w,FrOk r env f→Rel S w0 fl r h w→∃us,reals r vs=some us∧∀a,Ag f a→(rs.mapM (rsM a.tmps)).run P w = .ok us w
 | [],k,hk=>⟨[],hk,fun S w0 r f w _ _=>⟨[],reals_nil,fun a _=>by simp⟩⟩
 | .tmp t::rs,k,hk=>by
  obtain⟨v,hk,h2⟩:=evK_ok (show evK fl h env (.tmp t) (fun v=>resK P fl env h rs fun vs=>k (v::vs))=true from hk)
  obtain⟨vs,hk,h3⟩:=resK_ok (rs:=rs) hk
  refine⟨_,hk,fun S w0 r f w hf hR=>?_⟩
  obtain⟨u,hu,hx⟩:=h2 S w0 r f w hf hR
  obtain⟨us,hus,hr⟩:=h3 S w0 r f w hf hR
  refine⟨_,reals_cons.2 ⟨u,us,hu,hus,rfl⟩,fun a ha=>?_⟩
  have e:=ha.slot t u hx
  simp only[List.mapM_cons,Sem.run_bind,Sem.run_pure,Result.andThen_ok,hr a ha,e]
 | .cell t u::rs,k,hk=>by
  obtain⟨v,hk,h2⟩:=hLoad_ok (P:=P) (ty:=0) (show hLoad P fl u (.tmp t) h env (fun v=>resK P fl env h rs fun vs=>k (v::vs))=true from hk)
  obtain⟨vs,hk,h3⟩:=resK_ok (rs:=rs) hk
  refine⟨_,hk,fun S w0 r f w hf hR=>?_⟩
  obtain⟨x,hx,hr1⟩:=h2 S w0 r f w hf hR
  obtain⟨us,hus,hr⟩:=h3 S w0 r f w hf hR
  refine⟨_,reals_cons.2 ⟨x,us,hx,hus,rfl⟩,fun a ha=>?_⟩
  have h1:=hr1 none "" #[] none a ha
  simp only[execOp,Instr.loadAt,Sem.run_bind] at h1
  have key:(rsM a.tmps (.cell t u)).run P w = .ok x w:=by
   simp only[rsM,Sem.run_bind]
   have e:a.eval (.tmp t)=a.tmps.getD t undef:=rfl
   rw[e] at h1
   cases hp:a.tmps.getD t undef with
   | pointer q=>
    rw[hp] at h1
    cases q with
    | none=>simp[Instr.sureAddr,stuck,Sem.run,Result.andThen] at h1
    | some q=>
     simp only[Instr.sureAddr,Sem.run_pure,Result.andThen_ok] at h1
     cases hl:(loadVar u q).run P w with
     | ok v w1=>
      rw[hl] at h1
      simp[Result.andThen] at h1
      simp[asAddr,hl,h1]
     | halt hh w1=>rw[hl] at h1; simp[Result.andThen] at h1
   | _=>rw[hp] at h1; simp[Instr.sureAddr,stuck,Sem.run,Result.andThen] at h1
  simp only[List.mapM_cons,Sem.run_bind,key,Result.andThen_ok,hr a ha,Sem.run_pure]
theorem run_results{fn:Func}{tmps:Array Value}{us:List Value}{w:World}(hr:(fn.results.toList.mapM (rsM tmps)).run P w = .ok us w):(results fn tmps).run P w = .ok (if h:us.toArray.size=1 then us.toArray[0] else .tuple us.toArray) w:=by
 have e:(fn.results.mapM (rsM tmps)).run P w = .ok us.toArray w:=by
  have e2:fn.results.mapM (rsM tmps)=List.toArray <$> fn.results.toList.mapM (rsM tmps):=by
   conv=>lhs; rw[←Array.toArray_toList (xs:=fn.results)]
   exact List.mapM_toArray ..
  rw[e2,map_eq_pure_bind,Sem.run_bind,hr]
  rfl
 unfold results
 rw[Sem.run_bind]
 exact(congrArg (fun(r:Result (Array Value))=>r.andThen fun vs w=>(pure (if h:vs.size=1 then vs[0] else Value.tuple vs):Sem Value).run P w) e).trans rfl
theorem oneK_ok{vs:List AV}{k:AV→Bool}(hk:oneK vs k=true): ∃v,k v=true∧∀(r:Ren) (us:List Value),reals r vs=some us→real r v=some (if h:us.toArray.size=1 then us.toArray[0] else .tuple us.toArray):=by
 match vs,hk with
 | [],hk=>
  refine⟨_,hk,fun r us h=>?_⟩
  rw[reals_nil] at h; cases h
  rfl
 | [v],hk=>
  refine⟨v,hk,fun r us h=>?_⟩
  obtain⟨x,hx,rfl⟩:=reals1 h
  simpa using hx
 | v::w::t,hk=>
  refine⟨_,hk,fun r us h=>?_⟩
  have hl:=reals_len h
  rw[dif_neg (by simp at hl ⊢; omega)]
  simp only[real,h,Option.map_some]
noncomputable def argsK(vs:List AV):Nat→Tr AV→(Tr AV→Bool)→Bool:=List.rec (motive:=fun _=>Nat→Tr AV→(Tr AV→Bool)→Bool) (fun _ e k=>k e) (fun v _ ih i e k=>Tr.setK (some v) (bits i) e fun e=>natK (Nat.succ i) fun i=>ih i e k) vs
theorem argsK_ok: ∀{vs:List AV} {i:Nat} {e:Tr AV} {k:Tr AV→Bool},argsK vs i e k=true→i+vs.length≤4096→∃e',k e'=true∧∀t,t < LIM→Tr.get (bits t) e'=if i≤t∧t < i+vs.length then vs[t - i]? else Tr.get (bits t) e
 | [],i,e,k,hk,_=>⟨e,hk,fun t _=>by rw[if_neg (by rw[List.length_nil]; omega)]⟩
 | v::vs,i,e,k,hk,hl=>by
  simp only[List.length_cons] at hl
  replace hk:Tr.setK (some v) (bits i) e (fun e=>natK (Nat.succ i) fun i=>argsK vs i e k)=true:=hk
  rw[Tr.setK_eq,natK_eq] at hk
  obtain⟨e',hk,h2⟩:=argsK_ok hk (by omega)
  refine⟨e',hk,fun t ht=>?_⟩
  rw[h2 t ht,Tr.get_set]
  simp only[List.length_cons]
  by_cases c:t=i
  ·subst c
   rw[if_neg (by omega),if_pos rfl,if_pos (by omega)]
   simp
  ·have hi:i < LIM:=Nat.lt_of_lt_of_le (show i < 4096 by omega) (by decide)
   by_cases c2:i+1≤t∧t < i+1+vs.length
   ·rw[if_pos c2,if_pos (by omega)]
    have:t - i=(t - (i+1))+1:=by omega
    rw[this]; simp
   ·rw[if_neg c2,if_neg (fun q=>c (bits_inj ht hi q.symm)),if_neg (by omega)]
theorem look_args': ∀(l:List Value) (k t:Nat),k≤t→H.look (H.args k l) t=l[t - k]?
 | [],k,t,_=>by simp[H.args,H.look]
 | u::r,k,t,hk=>by
  by_cases c:k=t
  ·subst c; simp[H.args,H.look,beq_self]
  ·have:t - k=(t - (k+1))+1:=by omega
   rw[this]
   simp only[H.args,H.look,beq_ne c,List.getElem?_cons_succ]
   exact look_args' r (k+1) t (by omega)
abbrev PrimF:=FuncId→Option (CallF→List AV→Hp→KV→KV→Bool)
def PrimOk(P:Program)(fl:Nat)(prim:PrimF):Prop:=∀f p,prim f=some p→∀call,CallOk P fl call→CallOk P fl fun g vs h kr kp=>ife (Nat.beq g f) (p call vs h kr kp) false
noncomputable def endK(P:Program)(fl:Nat)(fn:Func)(kr kp:KV):KS:=fun out env h=>Out.rec (motive:=fun _=>Bool) (resK P fl env h fn.results.toList fun vs=>oneK vs fun v=>kr v h) (fun _=>false) (resK P fl env h fn.results.toList fun vs=>oneK vs fun v=>kr v h) (fun v=>kp v h) out
noncomputable def bodyK(P:Program)(fl m:Nat)(dr:Nat→CallF→DrawF)(call:CallF):CallF:=fun f vs h kr kp=>fnK P f fun fn=>someK fn.body fun c=>lenK vs fun l=>ask (Nat.ble l fn.ntmps) (ask (Nat.ble l 4096) (argsK vs 0 .e fun env=>codeK P fl fn.ntmps m call (dr fn.ntmps call) c env h (endK P fl fn kr kp)))
def AllRegs(P:Program)(G:Array Oper→Prop):Prop:=∀(f:FuncId) fn c,P.funcs[f]?=some fn→fn.body=some c→Regs G c
theorem bodyK_ok{m:Nat}{dr:Nat→CallF→DrawF}{call:CallF}{G:Array Oper→Prop}(hc:CallOk P fl call)(hdr : ∀n call,CallOk P fl call→DrawOk P fl n G (dr n call))(hG:AllRegs P G):CallOk P fl (bodyK P fl m dr call):=by
 intro f vs h kr kp hk
 obtain⟨fn,hf,hk⟩:=fnK_ok hk
 obtain⟨c,hb,hk⟩:=someK_ok hk
 rw[lenK_eq] at hk
 obtain⟨hl,hk⟩:=ask_ok hk
 obtain⟨hl2,hk⟩:=ask_ok hk
 obtain⟨env,hk,he⟩:=argsK_ok hk (by have:=ble_le hl2; omega)
 obtain⟨out,env',h',hk,hC⟩:=codeK_ok hc (hdr fn.ntmps call hc) c (hG f fn c hf hb) env h _ hk
 have start : ∀S w0 r w (xs:List Value) (R:Ending→World→Prop),Rel S w0 fl r h w→reals r vs=some xs→Ends S w0 fl fn.ntmps [] r out env' h' (FQ P fn R)→Calls P f xs.toArray w R:=by
  intro S w0 r w xs R hR hxs hE
  refine enter hf rfl hb (by rw[reals_len hxs]; exact hl) (CL_of_CW (hC none rfl S w0 r _ w _ rfl (fun t v ht hv=>?_) hR hE))
  rw[he t ht] at hv
  by_cases q:0≤t∧t < 0+vs.length
  ·rw[if_pos q,Nat.sub_zero] at hv
   obtain⟨u,hu,hr⟩:=reals_at hxs hv
   exact⟨u,hr,by rw[look_args' xs 0 t (Nat.zero_le _),Nat.sub_zero]; exact hu⟩
  ·rw[if_neg q,Tr.get_e] at hv; cases hv
 have fin : ∀out,(out = .nm∨out = .ret)→(resK P fl env' h' fn.results.toList fun vs=>oneK vs fun v=>kr v h')=true→(∀S w0 r w (xs:List Value) (R:Ending→World→Prop),Rel S w0 fl r h w→reals r vs=some xs→Ends S w0 fl fn.ntmps [] r out env' h' (FQ P fn R)→Calls P f xs.toArray w R)→
   ∃v h',kr v h'=true∧∀S w0 r w xs,Rel S w0 fl r h w→reals r vs=some xs→Calls P f xs.toArray w fun e w'=>∃r' x,e = .returned x∧Ext r r'∧Rel S w0 fl r' h' w'∧real r' v=some x:=by
  intro out ho hk start
  obtain⟨rs,hk,h2⟩:=resK_ok hk
  obtain⟨v,hk,h3⟩:=oneK_ok hk
  refine⟨v,h',hk,fun S w0 r w xs hR hxs=>start S w0 r w xs _ hR hxs fun r' f' w' hn hd hx hf' hR'=>?_⟩
  obtain⟨us,hus,hr⟩:=h2 S w0 r' f' w' hf' hR'
  have q:f'.ds=[]∧∃v0,(∀a,Ag f' a→(results fn a.tmps).run P w' = .ok v0 w')∧∃r'' x,Ending.returned v0 = .returned x∧Ext r r''∧Rel S w0 fl r'' h' w'∧real r'' v=some x:=
   ⟨hd,_,fun a ha=>run_results (hr a ha),r',_,rfl,hx,hR',h3 r' us hus⟩
  rcases ho with rfl|rfl <;> exact q
 cases out with
 | nm=>exact .inl (fin .nm (.inl rfl) hk start)
 | ex i=>cases hk
 | ret=>exact .inl (fin .ret (.inr rfl) hk start)
 | pan v=>
  refine .inr ⟨v,h',hk,fun S w0 r w xs hR hxs=>start S w0 r w xs _ hR hxs fun r' f' w' hn hd hx hf' hR'=>?_⟩
  intro u hu
  exact⟨hd,r',u,rfl,hx,hR',hu⟩
noncomputable def callK(P:Program)(fl m:Nat)(prim:PrimF)(dr:Nat→CallF→DrawF)(d:Nat):CallF:=Nat.rec (motive:=fun _=>CallF) (fun _ _ _ _ _=>false) (fun _ ih f vs h kr kp=>Option.rec (motive:=fun _=>Bool) (bodyK P fl m dr ih f vs h kr kp) (fun p=>p ih vs h kr kp) (prim f)) d
theorem callK_ok{m:Nat}{prim:PrimF}{dr:Nat→CallF→DrawF}{G:Array Oper→Prop}(hp:PrimOk P fl prim)(hdr : ∀n call,CallOk P fl call→DrawOk P fl n G (dr n call))(hG:AllRegs P G): ∀d,CallOk P fl (callK P fl m prim dr d)
 | 0=>fun f vs h kr kp hk=>by cases hk
 | d+1=>by
  intro f vs h kr kp hk
  have ih:=callK_ok (m:=m) hp hdr hG d
  replace hk:Option.rec (motive:=fun _=>Bool) (bodyK P fl m dr (callK P fl m prim dr d) f vs h kr kp) (fun p=>p (callK P fl m prim dr d) vs h kr kp) (prim f)=true:=hk
  cases hpf:prim f with
  | none=>
   rw[hpf] at hk
   exact bodyK_ok ih hdr hG f vs h kr kp hk
  | some p=>
   rw[hpf] at hk
   refine hp f p hpf _ ih f vs h kr kp ?_
   show ife (Nat.beq f f) _ false=true
   rw[beq_self]
   exact hk
end
end Go.Proofs.YtbhbdeelpopgoaaGreatDoor.E

namespace Go.Proofs.YtbhbdeelpopgoaaGreatDoor.H
open Go.RowKit
section
variable {M : Option (Option Nat)} {P : Program} {ops : Array Oper} {Q : Post} {rest : List Oper} {f : Fr} {w : World} {d : Nat} {ty : TypeId} {pos : String} {af : Array Edge}
theorem wpS_cl{c:Code}{a:Act}{cs:List Frame}{QS:Exit→Act→List Frame→World→Prop}(h:CL none P Q [c] f w)(ha:Ag f a)(hq : ∀e f a w,Ag f a→Q e f w→QS e a cs w):c.wpS P QS a cs w:=
 wpS_of_wp (wp_mono (CL.one h a ha) fun e a w ⟨g,hg,q⟩=>hq e g a w hg q)
class NoIface (P:Program) (t:TypeId):Prop where out : ∃d,P.underlying t=some d∧∀ms,d≠.interface ms
class IfaceT (P:Program) (t:TypeId):Prop where out:P.underlying t=some (.interface (P.methodsAt t))
end
end Go.Proofs.YtbhbdeelpopgoaaGreatDoor.H

