/-
  disk.New among the functions that are told by themselves. maps.Clone. errors.As, errors.Is at the errors of this program. errors.As, errors.Is: the walks. errors.As: the walk of the outer function. errors.As: the walk of the outer function, in whole. errors.Is: the walk. errors.As, errors.Is among the functions that are told by themselves. stage.run: a region that fills a map literal in either order. stage.run: the region that fills a map literal, walked in every order. stage.run among the functions that come to one of several ends. Sums: what a function comes to at a slice of one slice of known bytes, told under names of its own. The table of the functions that are told by themselves. Calls in memories of a few known blocks, which are only read: what they come to in any world that has these blocks. The six versions: values in memory, how two of them stand. A field of an element read, the cells as they stand. Rows of the index: what they are in memory; a row looked up. Rows copied: slices.Clone, net.rowsOf, (*net.Net).Rows.
-/
import Derived.Test.YtbhbdeelpopgoaaGreatDoorQf
import Derived.Laws.Externs
import Derived.MapKept
import Derived.Shelf.SlMaps.Clone
import Derived.Stop.Asserts
import Derived.Stop.IfaceNil
import Derived.Lib.IfaceEq
import Derived.Test.YtbhbdeelpopgoaaGreatDoorQe
set_option linter.unusedVariables false
set_option linter.unusedSimpArgs false
set_option linter.constructorNameAsVariable false
set_option linter.unusedVariables false
namespace Go.Proofs.YtbhbdeelpopgoaaGreatDoor.E
open Go Go.RowKit H
attribute [local irreducible] H.CL H.RW H.CW H.Yd H.thenK H.blockQ Go.Calls
noncomputable def secs(zs:List AV)(n:Nat):Hp→(List AV→Hp→Bool)→Bool:=Nat.rec (motive:=fun _=>Hp→(List AV→Hp→Bool)→Bool) (fun h k=>k [] h) (fun _ ih h k=>newH h (.cells 5 false false zs) fun i h=>ih h fun l h=>k (.sl i 0 1024 1024::l) h) n
theorem secs_ok{zs:List AV}{fl:Nat}(hz : ∀r,reals r zs=some (List.replicate 1024 (Value.int .u8 0))): ∀{n:Nat} {h:Hp} {k:List AV→Hp→Bool},secs zs n h k=true→∃l h',k l h'=true∧l.length=n∧
  ∀{S:Nat→Prop} {w0:World} {r:Ren} {w:World} {ss:List Nat},Rel S w0 fl r h w→ss.length=n→ss.Nodup→(∀s∈ss,(S s∨w0.heap.size≤s)∧(∀i q,r i=some q→q.1≠s)∧w.heap[s]?=some secB)→
   ∃r',Ext r r'∧Rel S w0 fl r' h' w∧reals r' l=some (ss.map secV)∧∀i q,r' i=some q→r i=some q∨q.1∈ss
 | 0,h,k,hk=>⟨[],h,hk,rfl,fun {S w0 r w ss} hR hl _ _=>by
   rw[List.eq_nil_of_length_eq_zero hl]
   exact⟨r,Ext.refl r,hR,reals_nil,fun i q h=> .inl h⟩⟩
 | n+1,h,k,hk=>by
  obtain⟨hl,hk⟩:=newH_ok (show newH h (.cells 5 false false zs) (fun i h=>secs zs n h fun l h=>k (.sl i 0 1024 1024::l) h)=true from hk)
  obtain⟨l,h',hk,hln,hC⟩:=secs_ok hz (n:=n) hk
  refine⟨_,h',hk,by simp[hln],fun {S w0 r w ss} hR hss hN hS=>?_⟩
  cases ss with
  | nil=>cases hss
  | cons s ss=>
   obtain⟨a1,a2,a3⟩:=hS s List.mem_cons_self
   have hx:=upd_ext hR (s,1024)
   have hzl:zs.length=1024:=by
    have:=reals_len (hz r)
    rw[List.length_replicate] at this
    exact this.symm
   have hR1:=hR.adopt (b:= .cells 5 false false zs) hl (p:=(s,1024)) a2 a1 ⟨_,(0,0),_,a3,by rw[List.size_toArray,List.length_replicate],hz _,by
    rw[hzl]
    exact(List.take_of_length_le (by rw[List.length_replicate]; exact Nat.le_refl _)).symm,by rw[hzl]; exact Nat.le_refl _,(fun _=>hzl),fun _=> .inl rfl⟩
   obtain⟨hs1,hN'⟩:=List.nodup_cons.1 hN
   obtain⟨r',b1,b2,b3,b4⟩:=hC (ss:=ss) hR1 (by simpa using hss) hN' fun x hx'=>by
    obtain⟨c1,c2,c3⟩:=hS x (List.mem_cons_of_mem _ hx')
    refine⟨c1,fun i q hq e=>?_,c3⟩
    rw[upd_eq] at hq
    by_cases z:i=h.next
    ·rw[if_pos z] at hq; cases hq
     exact hs1 (by have e:s=x:=e; rw[e]; exact hx')
    ·rw[if_neg z] at hq
     exact c2 i q hq e
   have e0:r' h.next=some (s,1024):=b1.v _ _ (upd_same _ _ _)
   refine⟨r',hx.trans b1,b2,reals_cons.2 ⟨secV s,_,by simp[real,e0,secV],b3,rfl⟩,fun i q hq=>?_⟩
   rcases b4 i q hq with z|z
   ·rw[upd_eq] at z
    by_cases y:i=h.next
    ·rw[if_pos y] at z; cases z
     exact .inr List.mem_cons_self
    ·rw[if_neg y] at z; exact .inl z
   ·exact .inr (List.mem_cons_of_mem _ z)
noncomputable def diskP(vs:List AV)(h:Hp)(k:KV):Bool:=match vs with
 | [.int .i64 (.ofNat n),.int .i64 (.ofNat z)]=>ask (Nat.beq z 1024) (natK n fun n=>ask (Nat.ble 1 n) (ask (Nat.ble n 4096) (timesK [.int .u8 0] 1024 [] fun zs=>secs zs n h fun l h=>newH h (.mp [] [] [] 0) fun m h=>newH h (.cells 22 true false l) fun b h=>newH h (.cells 152 false false [.slx b 0 n 1,.map m,.int .i64 (-1),.bool false]) fun p h=>k (.ptr p 0) h)))
 | _=>false
theorem pr_37{fl:Nat}:Pr1 Tryz.prog fl 50 fun _ vs h kr _=>diskP vs h kr:=by
 refine Pr1.mem fun vs h k hk=>?_
 unfold diskP at hk
 split at hk
 ·rename_i n z
  obtain⟨hz,hk⟩:=ask_ok hk
  have hz:=Nat.eq_of_beq_eq_true hz
  rw[natK_eq] at hk
  obtain⟨h1,hk⟩:=ask_ok hk
  obtain⟨h2,hk⟩:=ask_ok hk
  have h1:=ble_le h1
  have h2:=ble_le h2
  rw[timesK_eq] at hk
  have hzs : ∀r,reals r ((List.replicate 1024 [AV.int .u8 0]).flatten++[])=some (List.replicate 1024 (Value.int .u8 0)):=by
   intro r
   have : ∀m,reals r ((List.replicate m [AV.int .u8 0]).flatten++[])=some (List.replicate m (Value.int .u8 0)):=by
    intro m
    induction m with
    | zero=>exact reals_nil
    | succ m ih=>exact reals_cons.2 ⟨_,_,rfl,ih,rfl⟩
   exact this 1024
  obtain⟨l,h3,hk,hln,hC⟩:=secs_ok (fl:=fl) hzs hk
  obtain⟨g1,hk⟩:=newH_ok hk
  obtain⟨g2,hk⟩:=newH_ok hk
  obtain⟨g3,hk⟩:=newH_ok hk
  refine⟨_,_,hk,fun S w0 r w xs hR hxs=>?_⟩
  obtain⟨x,y,hx,hy,rfl⟩:=reals2 hxs
  cases hx; cases hy
  rw[hz]
  refine(newDisk n h1 h2 w).mono ?_
  rintro e w' ⟨hK,ss,v,bm,bd,rfl,hss,b1,b2,hne,hv1,hv2,n1,n2,hbd,hbm,hown,hN,hS⟩
  have hsz:=hR.kept.size
  have H0:=hR.same hK
  obtain⟨r1,x1,R1,re1,i1⟩:=hC H0 hss hN fun s hs=>by
   obtain⟨a,b,c⟩:=hS s hs
   exact⟨.inr (by omega),fun i q hq=>by have:=hR.dom i q hq; omega,b⟩
  have im1 : ∀x,w.heap.size≤x→x∉ss→∀i q,r1 i=some q→q.1≠x:=fun x hx hn i q hq e=>by
   rcases i1 i q hq with z|z
   ·have:=hR.dom i q z; omega
   ·exact hn (e▸z)
  have R2:=R1.adopt (b:= .mp [] [] [] 0) (p:=(bm,0)) g1 (im1 bm b1 n1) (.inr (by show w0.heap.size≤bm; omega)) ⟨#[],0,hbm,reals_nil,reals_nil,List.Pairwise.nil,(fun e he=>by simp at he),rfl,rfl⟩
  have x2:=upd_ext R1 (bm,0)
  rcases hown.2 with ⟨_,q⟩|⟨g,cap,cur,rfl,hbase,hg,r1',r2',r3',r4'⟩
  ·omega
  rw[Nat.mul_one] at r3' r4'
  have hgs:g∉ss:=fun c=>(hS g c).2.2 rfl
  have hgm:g≠bm:=fun c=>hv1 (by simp[Value.ownBlock,c])
  have hgd:g≠bd:=fun c=>hv2 (by simp[Value.ownBlock,c])
  have im2 : ∀x,w.heap.size≤x→x∉ss→x≠bm→∀i q,upd r1 h3.next (bm,0) i=some q→q.1≠x:=fun x hx hn hm i q hq=>by
   rw[upd_eq] at hq
   split at hq
   ·cases hq; exact fun c=>hm c.symm
   ·exact im1 x hx hn i q hq
  have re2:=reals_mono x2 _ _ re1
  have x3:=upd_ext R2 (g,cap)
  have R3:=R2.adopt (b:= .cells 22 true false l) (p:=(g,cap)) g2 (im2 g hbase hgs hgm) (.inr (by show w0.heap.size≤g; omega)) ⟨cur,(0,0),_,hg,r3',reals_mono x3 _ _ re2,by rw[hln]; exact r4'.symm,by rw[hln]; exact r1',(fun z=>by cases z),fun _=> .inl rfl⟩
  have im3 : ∀i q,upd (upd r1 h3.next (bm,0)) (h3.new (.mp [] [] [] 0)).next (g,cap) i=some q→q.1≠bd:=fun i q hq=>by
   rw[upd_eq] at hq
   split at hq
   ·cases hq; exact hgd
   ·exact im2 bd b2 n2 (fun c=>hne c.symm) i q hq
  have x4:=upd_ext R3 (bd,4)
  have em:upd r1 h3.next (bm,0) h3.next=some (bm,0):=upd_same _ _ _
  have eg:=upd_same (upd r1 h3.next (bm,0)) (h3.new (.mp [] [] [] 0)).next (g,cap)
  have em3:=x3.v _ _ em
  have R4:=R3.adopt (b:= .cells 152 false false [.slx (h3.new (.mp [] [] [] 0)).next 0 n 1,.map h3.next,.int .i64 (-1),.bool false]) (p:=(bd,4)) g3 im3 (.inr (by show w0.heap.size≤bd; omega)) ⟨_,(0,0),_,hbd,rfl,reals_mono x4 _ _ (reals_cons.2 ⟨.slice (some ⟨g,0,none⟩) n cap,_,by
    simp only[real,eg,Option.bind_some,Nat.zero_add,Nat.mul_one,Nat.sub_zero,Nat.div_one]
    rw[if_pos ⟨Nat.one_pos,r1',r2'⟩],reals_cons.2 ⟨.map (some bm),_,by simp[real,em3],reals_cons.2 ⟨_,_,rfl,reals_cons.2 ⟨_,_,rfl,reals_nil,rfl⟩,rfl⟩,rfl⟩,rfl⟩),rfl,Nat.le_refl _,fun _=>rfl,fun _=> .inl rfl⟩
  exact⟨_,_,rfl,((x1.trans x2).trans x3).trans x4,R4,by simp[real,upd_same]⟩
 ·cases hk
end Go.Proofs.YtbhbdeelpopgoaaGreatDoor.E

set_option linter.constructorNameAsVariable false
set_option linter.unusedVariables false
namespace Go.Proofs.YtbhbdeelpopgoaaGreatDoor.E
open Go Go.RowKit H
section
variable {P : Program} {f : Fr} {w : World} {d ty : Nat} {pos : String} {af : Array Edge}
theorem Y.eqMapNil{t yt k e:TypeId}(ht:P.underlying t=some (.map k e)){x y:Operand}{p:Option Nat}(hx:f.ev x=some (.map p))(hy:f.ev y=some (.map none)):Yd P f (op1 d (.binOp .eql t x y yt) ty pos af) (.bool p.isNone) w:=fun a ha=>by
 simp[execOp,ha.eval hx,ha.eval hy,noGuard (P:=P) .eql t x y (.map p) (.map none) (by simp) (by simp),run_eql_map_nil_sl (P:=P) w t k e p ht]
theorem Y.assertMap{x:Operand}{xt t k e:TypeId}{v:Value}(ht:P.underlying t=some (.map k e))(hx:f.ev x=some (.iface t v)):Yd P f (op1 d (.typeAssert x xt t false) ty pos af) v w:=fun a ha=>by
 simp[execOp,ha.eval hx,run_typeAssert_map_sl (P:=P) w t xt k e v ht]
theorem RW.extW{M:Option (Option Nat)}{ops:Array Oper}{Q:Post}{rest:List Oper}{w':World}{k:FuncId}{xs:List Operand}{l:List Value}{at':Array TypeId}{v:Value}(hv:f.evs xs=some l)(hc:(callFunc k l.toArray).run P w = .ok (.value v) w')(hd:Nat.blt d f.n=true)(k':RW M P ops Q rest (f.put d v) w'):RW M P ops Q (op1 d (.call {callee:= .value (.func k),args:=xs.toArray,argTypes:=at'}) ty pos af::rest) f w:=
 RW.val rfl rfl hd (fun a ha=>by simp[execOp,resolve,Act.eval,Deferred.ofValue,invoke,ha.evs xs l hv,hc]) k'
end
attribute [local irreducible] H.CL H.RW H.CW H.Yd H.thenK H.blockQ Go.Calls
theorem run_clone(P:Program){w:World}{t:TypeId}{r:Nat}{es:Array MapEntry}{ck:Nat}(hb:w.heap[r]?=some (.map es ck)):
  (Extern.MapsClone.clone #[.iface t (.map (some r))]).run P w = .ok (.iface t (.map (some w.heap.size))) (w.alloc (.map es ck)):=by
 have e:Extern.MapsClone.clone #[.iface t (.map (some r))]=(getObj r >>= fun o=>match o with
  | .map entries clock=>(do pure (.iface t (.map (some (←newObj (.map entries clock))))))
  | _=>stuck "maps.clone: a map expected"):=rfl
 rw[e]
 simp[MapKept.run_getObj_map hb,Result.andThen,go_sem]
theorem ext_clone(t:TypeId){w:World}{r:Nat}{es:Array MapEntry}{ck:Nat}(hb:w.heap[r]?=some (.map es ck)):(callFunc 283 #[.iface t (.map (some r))]).run Tryz.prog w = .ok (.value (.iface t (.map (some w.heap.size)))) (w.alloc (.map es ck)):=by
 rw[run_callFunc_extern Tryz.func283 (by kernel_rfl) (by kernel_rfl) (by kernel_rfl) (e:=Extern.MapsClone.clone) (by kernel_rfl),run_clone _ hb]
 rfl
noncomputable def cloneP(vs:List AV)(h:Hp)(k:KV):Bool:=one1 vs fun v=>match v with
 | .nilm=>k .nilm h
 | .map j=>mapK h j fun ks vs bs ck=>newH h (.mp ks vs bs ck) fun i h=>k (.map i) h
 | _=>false
theorem cloneP_ok{f:FuncId}(hn : ∀w,Calls Tryz.prog f #[.map none] w fun e w'=>e = .returned (.map none)∧K0 w w')
  (hm : ∀w r es ck,w.heap[r]?=some (.map es ck)→Calls Tryz.prog f #[.map (some r)] w fun e w'=>e = .returned (.map (some w.heap.size))∧w'=w.alloc (.map es ck)) {fl:Nat}:Pr1 Tryz.prog fl f fun _ vs h kr _=>cloneP vs h kr:=by
 refine Pr1.mem fun ps h k hk=>?_
 obtain⟨v,rfl,hk⟩:=one1_ok hk
 cases v with
 | nilm=>
  refine⟨_,_,hk,fun S' w0 r w xs hR hxs=>?_⟩
  obtain⟨x,hx,rfl⟩:=reals1 hxs
  cases hx
  refine(hn w).mono ?_
  rintro e w' ⟨rfl,k'⟩
  exact⟨r,_,rfl,Ext.refl r,hR.same k',rfl⟩
 | map j=>
  obtain⟨ks,vs,bs,ck,hb,hk⟩:=mapK_ok hk
  obtain⟨hl,hk⟩:=newH_ok hk
  refine⟨_,_,hk,fun S' w0 r w xs hR hxs=>?_⟩
  obtain⟨x,hx,rfl⟩:=reals1 hxs
  obtain⟨p,hp,rfl⟩:=real_map hx
  obtain⟨en,c,e1,e2,e3,e4,e5,e6,rfl⟩:=hR.at hp hb
  refine(hm w p.1 en c e1).mono ?_
  rintro e w' ⟨rfl,rfl⟩
  have hx':=upd_ext hR (w.heap.size,0)
  refine⟨upd r h.next (w.heap.size,0),_,rfl,hx',hR.new hl (Kept.alloc w _) (Nat.le_refl _) ⟨en,c,heap_alloc_new w _,reals_mono hx' _ _ e2,reals_mono hx' _ _ e3,e4,e5,e6,rfl⟩,by simp only[real,upd_same,Option.map_some]⟩
 | _=>cases hk
theorem pr_206{fl:Nat}:Pr1 Tryz.prog fl 203 fun _ vs h kr _=>cloneP vs h kr:=by
 refine cloneP_ok (fun w=>?_) fun w r es ck hb=>?_
 ·refine H.enter Tryz.func203 Tryz.ntmps203 rfl rfl ?_; dsimp only[H.args]
  repeat' (first|(refine CL.seq ?_)|(refine CL.region ?_)|(refine Gt.nil ?_; refine RW.nilw [0,2,4] ?_; dsimp only[H.keep,H.look,H.Fr.put,Nat.beq])|(refine Gt.assign ?_; refine RW.y (Y.assign rfl) rfl ?_)|(refine Gt.move ?_; refine RW.y (Y.move rfl) rfl ?_))
  refine RW.y (Y.eqMapNil (k:=9) (e:=9) (by kernel_rfl) rfl rfl) rfl ?_
  repeat' (first|(refine CL.seq ?_)|(refine CL.region ?_)|(refine CL.condT rfl ?_)|(refine CL.ret ?_)|(refine Gt.nil ?_; refine RW.nilw [0,2,4] ?_; dsimp only[H.keep,H.look,H.Fr.put,Nat.beq])|(refine Gt.assign ?_; refine RW.y (Y.assign rfl) rfl ?_))
  exact FQ.one rfl rfl rfl ⟨rfl,Kept.refl _ _⟩
 ·refine H.enter Tryz.func203 Tryz.ntmps203 rfl rfl ?_; dsimp only[H.args]
  repeat' (first|(refine CL.seq ?_)|(refine CL.region ?_)|(refine Gt.nil ?_; refine RW.nilw [0,2,4] ?_; dsimp only[H.keep,H.look,H.Fr.put,Nat.beq])|(refine Gt.assign ?_; refine RW.y (Y.assign rfl) rfl ?_)|(refine Gt.move ?_; refine RW.y (Y.move rfl) rfl ?_))
  refine RW.y (Y.eqMapNil (k:=9) (e:=9) (by kernel_rfl) rfl rfl) rfl ?_
  repeat' (first|(refine CL.seq ?_)|(refine CL.region ?_)|(refine CL.skip ?_)|(refine CL.condF rfl ?_)|(refine Gt.nil ?_; refine RW.nilw [0,2,4] ?_; dsimp only[H.keep,H.look,H.Fr.put,Nat.beq])|(refine Gt.move ?_; refine RW.y (Y.move rfl) rfl ?_)|(refine Gt.iface ?_; refine RW.y (Y.iface rfl) rfl ?_))
  refine RW.extW rfl (ext_clone _ hb) rfl ?_
  refine RW.y (Y.assertMap (k:=9) (e:=9) (by kernel_rfl) rfl) rfl ?_
  repeat' (first|(refine CL.ret ?_)|(refine Gt.nil ?_; refine RW.nilw [0,2,4] ?_; dsimp only[H.keep,H.look,H.Fr.put,Nat.beq])|(refine Gt.assign ?_; refine RW.y (Y.assign rfl) rfl ?_))
  exact FQ.one rfl rfl rfl ⟨rfl,rfl⟩
theorem pr_518{fl:Nat}:Pr1 Tryz.prog fl 515 fun _ vs h kr _=>cloneP vs h kr:=by
 refine cloneP_ok (fun w=>?_) fun w r es ck hb=>?_
 ·refine H.enter Tryz.func515 Tryz.ntmps515 rfl rfl ?_; dsimp only[H.args]
  repeat' (first|(refine CL.seq ?_)|(refine CL.region ?_)|(refine Gt.nil ?_; refine RW.nilw [0,2,4] ?_; dsimp only[H.keep,H.look,H.Fr.put,Nat.beq])|(refine Gt.assign ?_; refine RW.y (Y.assign rfl) rfl ?_)|(refine Gt.move ?_; refine RW.y (Y.move rfl) rfl ?_))
  refine RW.y (Y.eqMapNil (k:=9) (e:=3) (by kernel_rfl) rfl rfl) rfl ?_
  repeat' (first|(refine CL.seq ?_)|(refine CL.region ?_)|(refine CL.condT rfl ?_)|(refine CL.ret ?_)|(refine Gt.nil ?_; refine RW.nilw [0,2,4] ?_; dsimp only[H.keep,H.look,H.Fr.put,Nat.beq])|(refine Gt.assign ?_; refine RW.y (Y.assign rfl) rfl ?_))
  exact FQ.one rfl rfl rfl ⟨rfl,Kept.refl _ _⟩
 ·refine H.enter Tryz.func515 Tryz.ntmps515 rfl rfl ?_; dsimp only[H.args]
  repeat' (first|(refine CL.seq ?_)|(refine CL.region ?_)|(refine Gt.nil ?_; refine RW.nilw [0,2,4] ?_; dsimp only[H.keep,H.look,H.Fr.put,Nat.beq])|(refine Gt.assign ?_; refine RW.y (Y.assign rfl) rfl ?_)|(refine Gt.move ?_; refine RW.y (Y.move rfl) rfl ?_))
  refine RW.y (Y.eqMapNil (k:=9) (e:=3) (by kernel_rfl) rfl rfl) rfl ?_
  repeat' (first|(refine CL.seq ?_)|(refine CL.region ?_)|(refine CL.skip ?_)|(refine CL.condF rfl ?_)|(refine Gt.nil ?_; refine RW.nilw [0,2,4] ?_; dsimp only[H.keep,H.look,H.Fr.put,Nat.beq])|(refine Gt.move ?_; refine RW.y (Y.move rfl) rfl ?_)|(refine Gt.iface ?_; refine RW.y (Y.iface rfl) rfl ?_))
  refine RW.extW rfl (ext_clone _ hb) rfl ?_
  refine RW.y (Y.assertMap (k:=9) (e:=3) (by kernel_rfl) rfl) rfl ?_
  repeat' (first|(refine CL.ret ?_)|(refine Gt.nil ?_; refine RW.nilw [0,2,4] ?_; dsimp only[H.keep,H.look,H.Fr.put,Nat.beq])|(refine Gt.assign ?_; refine RW.y (Y.assign rfl) rfl ?_))
  exact FQ.one rfl rfl rfl ⟨rfl,rfl⟩
end Go.Proofs.YtbhbdeelpopgoaaGreatDoor.E

set_option linter.constructorNameAsVariable false
set_option linter.unusedVariables false
namespace Go.Proofs.YtbhbdeelpopgoaaGreatDoor.E
open Go Go.RowKit H Go.Extern
section
variable {M : Option (Option Nat)} {P : Program} {ops : Array Oper} {Q : Post} {rest : List Oper} {f : Fr} {w w' : World} {d ty : Nat} {pos : String} {af : Array Edge}
theorem RW.inv{x:Operand}{m:String}{xs:List Operand}{rv u:Value}{l:List Value}{at':Array TypeId}(hx:f.ev x=some rv)(hv:f.evs xs=some l)(hd:Nat.blt d f.n=true)(hr:(callMethod rv m l.toArray).run P w = .ok (.value u) w')(k:RW M P ops Q rest (f.put d u) w'):RW M P ops Q (op1 d (.call {callee:= .invoke x m,args:=xs.toArray,argTypes:=at'}) ty pos af::rest) f w:=
 RW.val rfl rfl hd (fun a ha=>by simp[execOp,resolve,invoke,ha.eval hx,ha.evs xs l hv,hr]) k
theorem RW.invE{x:Operand}{m:String}{xs:List Operand}{rv:Value}{l:List Value}{at':Array TypeId}{g:FuncId}{zs:List Value}(hx:f.ev x=some rv)(hv:f.evs xs=some l)(hd:Nat.blt d f.n=true)(hr:(callMethod rv m l.toArray).run P w = .ok (.enter g zs.toArray) w)(h:Calls P g zs.toArray w (After M P ops Q rest f d)):RW M P ops Q (op1 d (.call {callee:= .invoke x m,args:=xs.toArray,argTypes:=at'}) ty pos af::rest) f w:=by
 refine RW.call (args:=zs.toArray) rfl hd (fun a ha=>?_) h fun e w' hR=>by cases e <;> exact hR
 simp[execOp,resolve,invoke,ha.eval hx,ha.evs xs l hv,hr]
theorem Y.asrt{x:Operand}{xt t:TypeId}{v u:Value}{c:Bool}(hx:f.ev x=some v)(hr:(Instr.typeAssert v xt t c).run P w = .ok u w):Yd P f (op1 d (.typeAssert x xt t c) ty pos af) u w:=fun a ha=>by
 simp[execOp,ha.eval hx,hr]
end
attribute [local irreducible] H.CL H.RW H.CW H.Yd H.thenK H.blockQ Go.Calls
def hT(t:Nat):Value:= .pointer (some ⟨9,t,none⟩)
def rT(t:Nat):Value:= .iface 512 (.agg #[hT t])
def rV(t:Nat)(a:Addr)(fl:Int):Value:= .agg #[hT t,.pointer (some a),.int .u64 fl]
structure AsT (T TP:Nat) (ok:Value→Prop) (fl1 fl2:Int):Prop where
 vo : ∀w v,ok v→(callFunc 314 #[.iface T v]).run Tryz.prog w = .ok (.value (rV T ⟨w.heap.size,0,none⟩ fl1)) (w.alloc (.cells #[v] T))
 el : ∀W a ta,W.cell? a=some (.pointer (some ta))→(callFunc 381 #[rV TP a 150]).run Tryz.prog W = .ok (.value (rV T ta fl2)) W
 st : ∀W ta b old v,ok v→W.cell? b=some v→W.cell? ta=some old→W.frozen? ta=false→(callFunc 382 #[rV T ta fl2,rV T b fl1]).run Tryz.prog W = .ok (.value (.tuple #[])) (W.setCell ta v)
 hit : ∀w,(callMethod (rT T) "AssignableTo" #[rT T]).run Tryz.prog w = .ok (.value (.bool true)) w
 fau:T≠350∧∀w,(callMethod (rT 350) "AssignableTo" #[rT T]).run Tryz.prog w = .ok (.value (.bool false)) w
 con:T≠637→∀w,(callMethod (rT 637) "AssignableTo" #[rT T]).run Tryz.prog w = .ok (.value (.bool false)) w
 ty : ∀w v,ok v→(callFunc 373 #[.iface T v]).run Tryz.prog w = .ok (.value (rT T)) w
theorem rlm(z:Sem Value)(f:TypeId→Addr→Nat→Nat→Sem Value)(v:Value):
  ReflectliteValue.method z f #[v]=(do match ←ReflectliteValue.parts v with|none=>z|some (t,a,fl)=>f t a fl (fl % 32)):=rfl
theorem rls(v x:Value):ReflectliteValue.set #[v,x]=(do
  let (some (dst,a,fl),some (src,b,_)):=(←ReflectliteValue.parts v,←ReflectliteValue.parts x)
   | unsupported (.noEntry "extern/(internal/reflectlite.Value).Set.zeroValue")
  if fl / ReflectliteValue.flagAddr % 2 == 0 then unsupported (.noEntry "extern/(internal/reflectlite.Value).Set.unaddressable")
  let val ←loadVar src b
  if ←Rtype.directlyAssignable dst src then storeVar dst a val
  else if ←Rtype.implements dst src then
   if (←Rtype.kind src) == 20 then
    match val with
    | .nilIface=>unsupported (.noEntry "extern/reflectlite: a nil value of one interface type handed on as a value of another")
    | _=>storeVar dst a val
   else storeVar dst a (.iface src val)
  else panicString ("reflectlite.Set: value of type " ++ (←Rtype.spelt src) ++ " is not assignable to type " ++ (←Rtype.spelt dst))
  pure (.tuple #[])):=rfl
theorem parts351(a:Addr)(w:World):(ReflectliteValue.parts (rV 349 a 150)).run Tryz.prog w = .ok (some (349,a,150)) w:=by kernel_rfl
theorem parts59a(a:Addr)(w:World):(ReflectliteValue.parts (rV 90 a 386)).run Tryz.prog w = .ok (some (90,a,386)) w:=by kernel_rfl
theorem parts59(a:Addr)(w:World):(ReflectliteValue.parts (rV 90 a 130)).run Tryz.prog w = .ok (some (90,a,130)) w:=by kernel_rfl
theorem elemOf351(w:World):(Rtype.elem? 349).run Tryz.prog w = .ok (some 90) w:=by kernel_rfl
theorem mk59(p:Addr)(w:World):(ReflectliteValue.mk 90 p ReflectliteValue.flagAddr).run Tryz.prog w = .ok (rV 90 p 386) w:=by kernel_rfl
theorem direct59(w:World):(Rtype.directlyAssignable 90 90).run Tryz.prog w = .ok true w:=by kernel_rfl
theorem el59(W:World)(a ta:Addr)(ha:W.cell? a=some (.pointer (some ta))):(callFunc 381 #[rV 349 a 150]).run Tryz.prog W = .ok (.value (rV 90 ta 386)) W:=by
 rw[@run_callFunc_extern Tryz.prog 381 _ (ReflectliteValue.method (ReflectliteValue.valueError "reflectlite.Value.Elem" 0) ReflectliteValue.elem) Tryz.func381 (by kernel_rfl) (by kernel_rfl) (by kernel_rfl) (by kernel_rfl),rlm]
 simp only[Sem.run_bind,parts351,Result.andThen]
 simp[ReflectliteValue.elem,loadVar,isAgg,underlying,Tryz.underlying349,ha,Result.andThen,elemOf351,mk59]
theorem st59(W:World)(ta b:Addr)(old v:Value)(h1:v.oneCell'=true)(hb:W.cell? b=some v)(ht:W.cell? ta=some old)(hf:W.frozen? ta=false):(callFunc 382 #[rV 90 ta 386,rV 90 b 130]).run Tryz.prog W = .ok (.value (.tuple #[])) (W.setCell ta v):=by
 rw[@run_callFunc_extern Tryz.prog 382 _ ReflectliteValue.set Tryz.func382 (by kernel_rfl) (by kernel_rfl) (by kernel_rfl) (by kernel_rfl),rls]
 simp only[Sem.run_bind,parts59a,parts59,Result.andThen]
 have hcs:v.cells=#[v]:=by cases v <;> first|rfl|cases h1
 simp[ReflectliteValue.flagAddr,loadVar,isAgg,underlying,Tryz.underlying90,hb,Result.andThen,direct59,storeVar,hcs,storeCells,Addr.add]
 rw[run_store Tryz.prog W ta _ _ h1]
 simp[ht,hf]
theorem parts641(a:Addr)(w:World):(ReflectliteValue.parts (rV 638 a 150)).run Tryz.prog w = .ok (some (638,a,150)) w:=by kernel_rfl
theorem parts640a(a:Addr)(w:World):(ReflectliteValue.parts (rV 637 a 406)).run Tryz.prog w = .ok (some (637,a,406)) w:=by kernel_rfl
theorem parts640(a:Addr)(w:World):(ReflectliteValue.parts (rV 637 a 150)).run Tryz.prog w = .ok (some (637,a,150)) w:=by kernel_rfl
theorem elemOf641(w:World):(Rtype.elem? 638).run Tryz.prog w = .ok (some 637) w:=by kernel_rfl
theorem mk640(p:Addr)(w:World):(ReflectliteValue.mk 637 p ReflectliteValue.flagAddr).run Tryz.prog w = .ok (rV 637 p 406) w:=by kernel_rfl
theorem direct640(w:World):(Rtype.directlyAssignable 637 637).run Tryz.prog w = .ok true w:=by kernel_rfl
theorem el640(W:World)(a ta:Addr)(ha:W.cell? a=some (.pointer (some ta))):(callFunc 381 #[rV 638 a 150]).run Tryz.prog W = .ok (.value (rV 637 ta 406)) W:=by
 rw[@run_callFunc_extern Tryz.prog 381 _ (ReflectliteValue.method (ReflectliteValue.valueError "reflectlite.Value.Elem" 0) ReflectliteValue.elem) Tryz.func381 (by kernel_rfl) (by kernel_rfl) (by kernel_rfl) (by kernel_rfl),rlm]
 simp only[Sem.run_bind,parts641,Result.andThen]
 simp[ReflectliteValue.elem,loadVar,isAgg,underlying,Tryz.underlying638,ha,Result.andThen,elemOf641,mk640]
theorem st640(W:World)(ta b:Addr)(old v:Value)(h1:v.oneCell'=true)(hb:W.cell? b=some v)(ht:W.cell? ta=some old)(hf:W.frozen? ta=false):(callFunc 382 #[rV 637 ta 406,rV 637 b 150]).run Tryz.prog W = .ok (.value (.tuple #[])) (W.setCell ta v):=by
 rw[@run_callFunc_extern Tryz.prog 382 _ ReflectliteValue.set Tryz.func382 (by kernel_rfl) (by kernel_rfl) (by kernel_rfl) (by kernel_rfl),rls]
 simp only[Sem.run_bind,parts640a,parts640,Result.andThen]
 have hcs:v.cells=#[v]:=by cases v <;> first|rfl|cases h1
 simp[ReflectliteValue.flagAddr,loadVar,isAgg,underlying,Tryz.underlying637,hb,Result.andThen,direct640,storeVar,hcs,storeCells,Addr.add]
 rw[run_store Tryz.prog W ta _ _ h1]
 simp[ht,hf]
theorem as59:AsT 90 349 (fun v=>∃n,v = .int .i64 n) 130 386:={
 vo:=fun w v ⟨n,hv⟩=>by subst hv; kernel_rfl
 el:=el59
 st:=fun W ta b old v ⟨n,hv⟩ hb ht hf=>st59 W ta b old v (by subst hv; rfl) hb ht hf
 hit:=fun w=>by kernel_rfl
 fau:=⟨by decide,fun w=>by kernel_rfl⟩
 con:=fun _ w=>by kernel_rfl
 ty:=fun w v _=>by kernel_rfl}
theorem as640:AsT 637 638 (fun v=>∃p,v = .pointer (some p)) 150 406:={
 vo:=fun w v ⟨n,hv⟩=>by subst hv; kernel_rfl
 el:=el640
 st:=fun W ta b old v ⟨n,hv⟩ hb ht hf=>st640 W ta b old v (by subst hv; rfl) hb ht hf
 hit:=fun w=>by kernel_rfl
 fau:=⟨by decide,fun w=>by kernel_rfl⟩
 con:=fun c=>(c rfl).elim
 ty:=fun w v _=>by kernel_rfl}
end Go.Proofs.YtbhbdeelpopgoaaGreatDoor.E

set_option linter.constructorNameAsVariable false
set_option linter.unusedVariables false
namespace Go.Proofs.YtbhbdeelpopgoaaGreatDoor.E
open Go Go.RowKit H Go.Extern Go.Extern.Stop
section
variable {P : Program} {f : Fr} {w : World} {d ty : Nat} {pos : String} {af : Array Edge}
theorem Y.ifcNil{t yt:TypeId}(ht:P.isIface t=true){x y:Operand}{s:TypeId}{v:Value}(hx:f.ev x=some (.iface s v))(hy:f.ev y=some .nilIface):Yd P f (op1 d (.binOp .eql t x y yt) ty pos af) (.bool false) w:=fun a ha=>by
 simp[execOp,ha.eval hx,ha.eval hy,noGuard (P:=P) .eql t x y (.iface s v) .nilIface (by simp) (by simp),run_eql_iface_nil (w:=w) t ht s v]
theorem Y.ifcNN{t yt:TypeId}(ht:P.isIface t=true){n:Nat}(hx:f.ev (.tmp n)=some .nilIface):Yd P f (op1 d (.binOp .eql t (.tmp n) (.const .nilIface) yt) ty pos af) (.bool true) w:=fun a ha=>by
 have e:a.eval (.const .nilIface) = .nilIface:=rfl
 have g:(eqGuard .eql t (.tmp n) (.const .nilIface) .nilIface .nilIface).run P w = .ok () w:=by rfl
 simp[execOp,ha.eval hx,e,g,run_eql_nil_nil_at (w:=w) t ht]
theorem Y.ifcEq{t yt:TypeId}{x y:Operand}{s:TypeId}{u v:Value}{b:Bool}(hr:(binOp .eql t (.iface s u) v).run P w = .ok (.bool b) w)(hx:f.ev x=some (.iface s u))(hy:f.ev y=some v):Yd P f (op1 d (.binOp .eql t x y yt) ty pos af) (.bool b) w:=fun a ha=>by
 simp[execOp,ha.eval hx,ha.eval hy,noGuard (P:=P) .eql t x y (.iface s u) v (by simp) (by simp),hr]
end
attribute [local irreducible] H.CL H.RW H.CW H.Yd H.thenK H.blockQ Go.Calls
theorem unwF{w:World}{g o:Nat}{e:Value}(h:w.cell? ⟨g,o+2,none⟩=some e):Calls Tryz.prog 589 #[.pointer (some ⟨g,o,none⟩)] w fun e' w'=>e' = .returned e∧w'=w:=by
 refine H.enter Tryz.func589 Tryz.ntmps589 rfl rfl ?_; dsimp only[H.args]
 repeat' (first|(refine CL.seq ?_)|(refine CL.region ?_)|(refine CL.ret ?_)|(refine Gt.nil ?_; refine RW.nilw [0,2] ?_; dsimp only[H.keep,H.look,H.Fr.put,Nat.beq])|(refine RW.y (Y.load1 rfl h) rfl ?_)|(refine Gt.assign ?_; refine RW.y (Y.assign rfl) rfl ?_)|(refine Gt.move ?_; refine RW.y (Y.move rfl) rfl ?_)|(refine Gt.nilck ?_; refine RW.y (Y.nilck rfl) rfl ?_)|(refine Gt.fieldAddr ?_; refine RW.y (Y.fieldAddr rfl (by rfl)) rfl ?_))
 exact FQ.one rfl rfl rfl ⟨rfl,rfl⟩
theorem unwC{w:World}{g o:Nat}{e:Value}(h:w.cell? ⟨g,o+1,none⟩=some e):Calls Tryz.prog 613 #[.pointer (some ⟨g,o,none⟩)] w fun e' w'=>e' = .returned e∧w'=w:=by
 refine H.enter Tryz.func613 Tryz.ntmps613 rfl rfl ?_; dsimp only[H.args]
 repeat' (first|(refine CL.seq ?_)|(refine CL.region ?_)|(refine CL.ret ?_)|(refine Gt.nil ?_; refine RW.nilw [0,2] ?_; dsimp only[H.keep,H.look,H.Fr.put,Nat.beq])|(refine RW.y (Y.load1 rfl h) rfl ?_)|(refine Gt.assign ?_; refine RW.y (Y.assign rfl) rfl ?_)|(refine Gt.move ?_; refine RW.y (Y.move rfl) rfl ?_)|(refine Gt.nilck ?_; refine RW.y (Y.nilck rfl) rfl ?_)|(refine Gt.fieldAddr ?_; refine RW.y (Y.fieldAddr rfl (by rfl)) rfl ?_))
 exact FQ.one rfl rfl rfl ⟨rfl,rfl⟩
inductive Ch (w:World) (T:Nat) (v:Value):Nat→Value→Prop where
 | hit:Ch w T v 0 (.iface T v)
 | fau {g o e n}:w.cell? ⟨g,o+2,none⟩=some e→Ch w T v n e→Ch w T v (n+1) (.iface 350 (.pointer (some ⟨g,o,none⟩)))
 | con {g o e n}:T≠637→w.cell? ⟨g,o+1,none⟩=some e→Ch w T v n e→Ch w T v (n+1) (.iface 637 (.pointer (some ⟨g,o,none⟩)))
theorem Ch.shape{w:World}{T:Nat}{v:Value}{n:Nat}{e:Value}(h:Ch w T v n e): ∃t u,e = .iface t u:=by cases h <;> exact⟨_,_,rfl⟩
theorem tyF(w:World)(v:Value):(callFunc 373 #[.iface 350 v]).run Tryz.prog w = .ok (.value (rT 350)) w:=by kernel_rfl
theorem tyC(w:World)(v:Value):(callFunc 373 #[.iface 637 v]).run Tryz.prog w = .ok (.value (rT 637)) w:=by kernel_rfl
theorem mF(w:World)(p:Addr):(callMethod (.iface 350 (.pointer (some p))) "Unwrap" #[]).run Tryz.prog w = .ok (.enter 589 #[.pointer (some p)]) w:=by kernel_rfl
theorem mC(w:World)(p:Addr):(callMethod (.iface 637 (.pointer (some p))) "Unwrap" #[]).run Tryz.prog w = .ok (.enter 613 #[.pointer (some p)]) w:=by kernel_rfl
theorem asF(w:World)(v:Value):(Instr.typeAssert (.iface 350 v) 201 516 true).run Tryz.prog w = .ok (.tuple #[.nilIface,.bool false]) w:=run_typeAssert_lacksB Tryz.underlying516 (by kernel_rfl) (by kernel_rfl) v _ w
theorem asC(w:World)(v:Value):(Instr.typeAssert (.iface 637 v) 201 516 true).run Tryz.prog w = .ok (.tuple #[.nilIface,.bool false]) w:=run_typeAssert_lacksB Tryz.underlying516 (by kernel_rfl) (by kernel_rfl) v _ w
theorem unF(w:World)(v:Value):(Instr.typeAssert (.iface 350 v) 201 519 true).run Tryz.prog w = .ok (.tuple #[.iface 350 v,.bool true]) w:=run_typeAssert_hasB Tryz.underlying519 (by kernel_rfl) v _ w
theorem unC(w:World)(v:Value):(Instr.typeAssert (.iface 637 v) 201 519 true).run Tryz.prog w = .ok (.tuple #[.iface 637 v,.bool true]) w:=run_typeAssert_hasB Tryz.underlying519 (by kernel_rfl) v _ w
theorem cell_lt2{w:World}{a:Addr}{v:Value}(h:w.cell? a=some v):a.block < w.heap.size:=by
 rcases Nat.lt_or_ge a.block w.heap.size with c|c
 ·exact c
 ·simp[World.cell?,Array.getElem?_eq_none c] at h
theorem cell2{S:Nat→Prop}{w w':World}(k:Kept S w w'){a:Addr}{v:Value}(h:w.cell? a=some v)(hS : ¬S a.block):w'.cell? a=some v:=by
 rw[←h]; simp only[World.cell?]; rw[k.block _ (cell_lt2 h) hS]
theorem frozen2{S:Nat→Prop}{w w':World}(k:Kept S w w'){a:Addr}(h:a.block < w.heap.size)(hS : ¬S a.block):w'.frozen? a=w.frozen? a:=by
 simp only[World.frozen?]; rw[k.block _ h hS]
set_option maxHeartbeats 2000000 in
theorem asLoop{T TP:Nat}{ok:Value→Prop}{fl1 fl2:Int}(A:AsT T TP ok fl1 fl2){err v old:Value}{n:Nat}(hv:ok v){w:World}(hC:Ch w T v n err)(ta a:Addr)(ht:w.cell? ta=some old)(hf:w.frozen? ta=false)(ha:w.cell? a=some (.pointer (some ta))):
  Calls Tryz.prog 317 #[err,.iface TP (.pointer (some ta)),rV TP a 150,rT T] w fun e w'=>e = .returned (.bool true)∧∃W,K0 w W∧w'=W.setCell ta v:=by
 refine H.enter Tryz.func317 Tryz.ntmps317 rfl rfl ?_; dsimp only[H.args]
 repeat' (first|(refine CL.seq ?_)|(refine CL.region ?_))
 refine RW.box rfl rfl (fun w1 hb1 hk1 hl1=>?_)
 repeat' (first|(refine CL.block ?_)|(refine Gt.nil ?_; refine RW.nilw [0,1,2,3,6,8,9,10,11,12,14,19,35,36,38,39,43,45,46,48,49,50,51,55,60] ?_; dsimp only[H.keep,H.look,H.Fr.put,Nat.beq])|(refine Gt.assign ?_; refine RW.y (Y.assign rfl) rfl ?_))
 refine CL.loopS [0,1,3,6] (fun m vals wr=>∃err,vals=[err,.iface TP (.pointer (some ta)),rT T,.pointer (some ⟨w.heap.size,0,none⟩)]∧Ch w T v m err∧K0 w wr∧wr.heap[w.heap.size]?=some (.cells #[hT TP,.pointer (some a),.int .u64 150] 438 (0,0))) n ⟨_,rfl,err,rfl,hC,hk1,hb1⟩ ?_
 rintro m vals wr ⟨er,rfl,hCr,hkr,hbr⟩
 dsimp only[List.zip,List.zipWith]
 cases hCr with
 | hit=>
  repeat' (first|(refine CL.seq ?_)|(refine CL.region ?_)|(refine CL.block ?_)|(refine Gt.move ?_; refine RW.y (Y.move rfl) rfl ?_))
  refine RW.extW rfl (A.ty _ v hv) rfl ?_
  repeat' ((refine Gt.move ?_; refine RW.y (Y.move rfl) rfl ?_))
  refine RW.inv rfl rfl rfl (A.hit _) ?_
  repeat' (first|(refine CL.seq ?_)|(refine CL.region ?_)|(refine CL.condT rfl ?_)|(refine Gt.nil ?_; refine RW.nilw [0,1,2,3,6,8,9,10,11,12,14,19,35,36,38,39,43,45,46,48,49,50,51,55,60] ?_; dsimp only[H.keep,H.look,H.Fr.put,Nat.beq]))
  have htl:=cell_lt2 ht
  have hal:=cell_lt2 ha
  refine RW.y (Y.loadBlock rfl hbr rfl) rfl ?_
  refine RW.extW rfl (A.el wr a ta (cell2 hkr ha id)) rfl ?_
  repeat' ((refine Gt.move ?_; refine RW.y (Y.move rfl) rfl ?_))
  refine RW.extW rfl (A.vo wr v hv) rfl ?_
  refine RW.extW rfl (A.st _ ta _ old v hv (by rw[World.cell?_alloc_at _ _ _ _ (by simp)]; rfl) (cell2 (hkr.trans0 (Kept.alloc wr _)) ht id) (by rw[frozen2 (hkr.trans0 (Kept.alloc wr _)) htl id]; exact hf)) rfl ?_
  repeat' (first|(refine CL.seq ?_)|(refine CL.region ?_)|(refine CL.ret ?_)|(refine Rt.then ?_)|(refine Rt.block ?_)|(refine Gt.nil ?_; refine RW.nilw [0,1,2,3,6,8,9,10,11,12,14,19,35,36,38,39,43,45,46,48,49,50,51,55,60] ?_; dsimp only[H.keep,H.look,H.Fr.put,Nat.beq])|(refine Gt.assign ?_; refine RW.y (Y.assign rfl) rfl ?_))
  exact FQ.one rfl rfl rfl ⟨rfl,_,hkr.trans0 (Kept.alloc wr _),rfl⟩
 | fau hc hC2=>
  obtain⟨t5,u5,he5⟩:=hC2.shape
  subst he5
  repeat' (first|(refine CL.seq ?_)|(refine CL.region ?_)|(refine CL.block ?_)|(refine Gt.move ?_; refine RW.y (Y.move rfl) rfl ?_))
  refine RW.extW rfl (tyF _ _) rfl ?_
  repeat' ((refine Gt.move ?_; refine RW.y (Y.move rfl) rfl ?_))
  refine RW.inv rfl rfl rfl (A.fau.2 _) ?_
  repeat' (first|(refine CL.seq ?_)|(refine CL.region ?_)|(refine CL.skip ?_)|(refine CL.condF rfl ?_)|(refine Gt.nil ?_; refine RW.nilw [0,1,2,3,6,8,9,10,11,12,14,19,35,36,38,39,43,45,46,48,49,50,51,55,60] ?_; dsimp only[H.keep,H.look,H.Fr.put,Nat.beq])|(refine Gt.move ?_; refine RW.y (Y.move rfl) rfl ?_))
  refine RW.y (Y.asrt rfl (asF _ _)) rfl ?_
  repeat' (first|(refine CL.seq ?_)|(refine CL.region ?_)|(refine CL.skip ?_)|(refine CL.condF rfl ?_)|(refine CL.block ?_)|(refine Gt.nil ?_; refine RW.nilw [0,1,2,3,6,8,9,10,11,12,14,19,35,36,38,39,43,45,46,48,49,50,51,55,60] ?_; dsimp only[H.keep,H.look,H.Fr.put,Nat.beq])|(refine Gt.move ?_; refine RW.y (Y.move rfl) rfl ?_)|(refine Gt.guard ?_; (refine RW.off1 rfl rfl rfl rfl rfl ?_))|(refine Gt.assign ?_; refine RW.y (Y.assign rfl) rfl ?_)|(refine Gt.extract ?_; refine RW.y (Y.extract rfl rfl) rfl ?_)|(refine Gt.pick ?_; (refine RW.y (Y.pickF rfl rfl) rfl ?_)))
  refine RW.y (Y.asrt rfl (unF _ _)) rfl ?_
  repeat' (first|(refine CL.seq ?_)|(refine CL.region ?_)|(refine CL.condT rfl ?_)|(refine Gt.nil ?_; refine RW.nilw [0,1,2,3,6,8,9,10,11,12,14,19,35,36,38,39,43,45,46,48,49,50,51,55,60] ?_; dsimp only[H.keep,H.look,H.Fr.put,Nat.beq])|(refine Gt.move ?_; refine RW.y (Y.move rfl) rfl ?_)|(refine Gt.assign ?_; refine RW.y (Y.assign rfl) rfl ?_)|(refine Gt.extract ?_; refine RW.y (Y.extract rfl rfl) rfl ?_))
  refine RW.invE rfl rfl rfl (mF _ _) ((unwF (cell2 hkr hc id)).mono ?_)
  rintro e w5 ⟨rfl,rfl⟩
  repeat' (first|(refine CL.seq ?_)|(refine CL.region ?_)|(refine Gt.nil ?_; refine RW.nilw [0,1,2,3,6,8,9,10,11,12,14,19,35,36,38,39,43,45,46,48,49,50,51,55,60] ?_; dsimp only[H.keep,H.look,H.Fr.put,Nat.beq])|(refine Gt.move ?_; refine RW.y (Y.move rfl) rfl ?_)|(refine Gt.assign ?_; refine RW.y (Y.assign rfl) rfl ?_))
  refine RW.y (Y.ifcNil (by kernel_rfl) rfl rfl) rfl ?_
  repeat' (first|(refine CL.skip ?_)|(refine CL.condF rfl ?_)|(refine CL.done ?_)|(refine Nm.block ?_)|(refine Nm.then ?_)|(refine Gt.nil ?_; refine RW.nilw [0,1,2,3,6,8,9,10,11,12,14,19,35,36,38,39,43,45,46,48,49,50,51,55,60] ?_; dsimp only[H.keep,H.look,H.Fr.put,Nat.beq]))
  exact⟨_,_,rfl,rfl,rfl,Nat.lt_succ_self _,_,rfl,hC2,hkr,hbr⟩
 | con hT2 hc hC2=>
  obtain⟨t5,u5,he5⟩:=hC2.shape
  subst he5
  repeat' (first|(refine CL.seq ?_)|(refine CL.region ?_)|(refine CL.block ?_)|(refine Gt.move ?_; refine RW.y (Y.move rfl) rfl ?_))
  refine RW.extW rfl (tyC _ _) rfl ?_
  repeat' ((refine Gt.move ?_; refine RW.y (Y.move rfl) rfl ?_))
  refine RW.inv rfl rfl rfl (A.con hT2 _) ?_
  repeat' (first|(refine CL.seq ?_)|(refine CL.region ?_)|(refine CL.skip ?_)|(refine CL.condF rfl ?_)|(refine Gt.nil ?_; refine RW.nilw [0,1,2,3,6,8,9,10,11,12,14,19,35,36,38,39,43,45,46,48,49,50,51,55,60] ?_; dsimp only[H.keep,H.look,H.Fr.put,Nat.beq])|(refine Gt.move ?_; refine RW.y (Y.move rfl) rfl ?_))
  refine RW.y (Y.asrt rfl (asC _ _)) rfl ?_
  repeat' (first|(refine CL.seq ?_)|(refine CL.region ?_)|(refine CL.skip ?_)|(refine CL.condF rfl ?_)|(refine CL.block ?_)|(refine Gt.nil ?_; refine RW.nilw [0,1,2,3,6,8,9,10,11,12,14,19,35,36,38,39,43,45,46,48,49,50,51,55,60] ?_; dsimp only[H.keep,H.look,H.Fr.put,Nat.beq])|(refine Gt.move ?_; refine RW.y (Y.move rfl) rfl ?_)|(refine Gt.guard ?_; (refine RW.off1 rfl rfl rfl rfl rfl ?_))|(refine Gt.assign ?_; refine RW.y (Y.assign rfl) rfl ?_)|(refine Gt.extract ?_; refine RW.y (Y.extract rfl rfl) rfl ?_)|(refine Gt.pick ?_; (refine RW.y (Y.pickF rfl rfl) rfl ?_)))
  refine RW.y (Y.asrt rfl (unC _ _)) rfl ?_
  repeat' (first|(refine CL.seq ?_)|(refine CL.region ?_)|(refine CL.condT rfl ?_)|(refine Gt.nil ?_; refine RW.nilw [0,1,2,3,6,8,9,10,11,12,14,19,35,36,38,39,43,45,46,48,49,50,51,55,60] ?_; dsimp only[H.keep,H.look,H.Fr.put,Nat.beq])|(refine Gt.move ?_; refine RW.y (Y.move rfl) rfl ?_)|(refine Gt.assign ?_; refine RW.y (Y.assign rfl) rfl ?_)|(refine Gt.extract ?_; refine RW.y (Y.extract rfl rfl) rfl ?_))
  refine RW.invE rfl rfl rfl (mC _ _) ((unwC (cell2 hkr hc id)).mono ?_)
  rintro e w5 ⟨rfl,rfl⟩
  repeat' (first|(refine CL.seq ?_)|(refine CL.region ?_)|(refine Gt.nil ?_; refine RW.nilw [0,1,2,3,6,8,9,10,11,12,14,19,35,36,38,39,43,45,46,48,49,50,51,55,60] ?_; dsimp only[H.keep,H.look,H.Fr.put,Nat.beq])|(refine Gt.move ?_; refine RW.y (Y.move rfl) rfl ?_)|(refine Gt.assign ?_; refine RW.y (Y.assign rfl) rfl ?_))
  refine RW.y (Y.ifcNil (by kernel_rfl) rfl rfl) rfl ?_
  repeat' (first|(refine CL.skip ?_)|(refine CL.condF rfl ?_)|(refine CL.done ?_)|(refine Nm.block ?_)|(refine Nm.then ?_)|(refine Gt.nil ?_; refine RW.nilw [0,1,2,3,6,8,9,10,11,12,14,19,35,36,38,39,43,45,46,48,49,50,51,55,60] ?_; dsimp only[H.keep,H.look,H.Fr.put,Nat.beq]))
  exact⟨_,_,rfl,rfl,rfl,Nat.lt_succ_self _,_,rfl,hC2,hkr,hbr⟩
end Go.Proofs.YtbhbdeelpopgoaaGreatDoor.E

set_option linter.constructorNameAsVariable false
set_option linter.unusedVariables false
namespace Go.Proofs.YtbhbdeelpopgoaaGreatDoor.E
open Go Go.RowKit H Go.Extern Go.Extern.Stop
attribute [local irreducible] H.CL H.RW H.CW H.Yd H.thenK H.blockQ Go.Calls
theorem isNil351(W:World)(a p:Addr)(ha:W.cell? a=some (.pointer (some p))):(callFunc 316 #[rV 349 a 150]).run Tryz.prog W = .ok (.value (.bool false)) W:=by
 rw[@run_callFunc_extern Tryz.prog 316 _ (ReflectliteValue.method (ReflectliteValue.valueError "reflectlite.Value.IsNil" 0) ReflectliteValue.isNil) Tryz.func316 (by kernel_rfl) (by kernel_rfl) (by kernel_rfl) (by kernel_rfl),rlm]
 simp only[Sem.run_bind,parts351,Result.andThen]
 simp[ReflectliteValue.isNil,loadVar,isAgg,underlying,Tryz.underlying349,ha,Result.andThen]
theorem isNil641(W:World)(a p:Addr)(ha:W.cell? a=some (.pointer (some p))):(callFunc 316 #[rV 638 a 150]).run Tryz.prog W = .ok (.value (.bool false)) W:=by
 rw[@run_callFunc_extern Tryz.prog 316 _ (ReflectliteValue.method (ReflectliteValue.valueError "reflectlite.Value.IsNil" 0) ReflectliteValue.isNil) Tryz.func316 (by kernel_rfl) (by kernel_rfl) (by kernel_rfl) (by kernel_rfl),rlm]
 simp only[Sem.run_bind,parts641,Result.andThen]
 simp[ReflectliteValue.isNil,loadVar,isAgg,underlying,Tryz.underlying638,ha,Result.andThen]
structure AsT2 (T TP:Nat) (kd:Int):Prop where
 tv : ∀w p,(callFunc 314 #[.iface TP (.pointer (some p))]).run Tryz.prog w = .ok (.value (rV TP ⟨w.heap.size,0,none⟩ 150)) (w.alloc (.cells #[.pointer (some p)] TP))
 tt : ∀w a,(callFunc 315 #[rV TP a 150]).run Tryz.prog w = .ok (.value (rT TP)) w
 kn : ∀w,(callMethod (rT TP) "Kind" #[]).run Tryz.prog w = .ok (.value (.int .u8 22)) w
 nn : ∀W a p,W.cell? a=some (.pointer (some p))→(callFunc 316 #[rV TP a 150]).run Tryz.prog W = .ok (.value (.bool false)) W
 el : ∀w,(callMethod (rT TP) "Elem" #[]).run Tryz.prog w = .ok (.value (rT T)) w
 ek : ∀w,(callMethod (rT T) "Kind" #[]).run Tryz.prog w = .ok (.value (.int .u8 kd)) w
 im : ∀w,(callMethod (rT T) "Implements" #[rT 201]).run Tryz.prog w = .ok (.value (.bool true)) w
 ne:kd≠20
theorem as59b:AsT2 90 349 2:={
 tv:=fun w p=>by kernel_rfl
 tt:=fun w a=>by kernel_rfl
 kn:=fun w=>by kernel_rfl
 nn:=isNil351
 el:=fun w=>by kernel_rfl
 ek:=fun w=>by kernel_rfl
 im:=fun w=>by kernel_rfl
 ne:=by decide}
theorem as640b:AsT2 637 638 22:={
 tv:=fun w p=>by kernel_rfl
 tt:=fun w a=>by kernel_rfl
 kn:=fun w=>by kernel_rfl
 nn:=isNil641
 el:=fun w=>by kernel_rfl
 ek:=fun w=>by kernel_rfl
 im:=fun w=>by kernel_rfl
 ne:=by decide}
end Go.Proofs.YtbhbdeelpopgoaaGreatDoor.E

set_option linter.constructorNameAsVariable false
set_option linter.unusedVariables false
namespace Go.Proofs.YtbhbdeelpopgoaaGreatDoor.E
open Go Go.RowKit H Go.Extern Go.Extern.Stop
attribute [local irreducible] H.CL H.RW H.CW H.Yd H.thenK H.blockQ Go.Calls
theorem Ch.keep{w w':World}{T:Nat}{v:Value}{n:Nat}{e:Value}(h:Ch w T v n e)(k:K0 w w'):Ch w' T v n e:=by
 induction h with
 | hit=>exact .hit
 | fau h1 _ ih=>exact .fau (cell2 k h1 id) ih
 | con h0 h1 _ ih=>exact .con h0 (cell2 k h1 id) ih
theorem asNil(t:Value)(w:World):Calls Tryz.prog 235 #[.nilIface,t] w fun e w'=>e = .returned (.bool false)∧w'=w:=by
 refine H.enter Tryz.func235 Tryz.ntmps235 rfl rfl ?_; dsimp only[H.args]
 repeat' (first|(refine CL.seq ?_)|(refine CL.region ?_)|(refine Gt.nil ?_; refine RW.nilw [0,1,4,5,6,7,9,11,23,35] ?_; dsimp only[H.keep,H.look,H.Fr.put,Nat.beq])|(refine Gt.move ?_; refine RW.y (Y.move rfl) rfl ?_)|(refine Gt.assign ?_; refine RW.y (Y.assign rfl) rfl ?_))
 refine RW.y (Y.ifcNN (by kernel_rfl) rfl) rfl ?_
 repeat' (first|(refine CL.seq ?_)|(refine CL.region ?_)|(refine CL.condT rfl ?_)|(refine CL.ret ?_)|(refine Gt.nil ?_; refine RW.nilw [0,1,4,5,6,7,9,11,23,35] ?_; dsimp only[H.keep,H.look,H.Fr.put,Nat.beq])|(refine Gt.assign ?_; refine RW.y (Y.assign rfl) rfl ?_))
 exact FQ.one rfl rfl rfl ⟨rfl,rfl⟩
set_option maxHeartbeats 2000000 in
theorem asTop{T TP:Nat}{ok:Value→Prop}{fl1 fl2 kd:Int}(A:AsT T TP ok fl1 fl2)(B:AsT2 T TP kd){err v old:Value}{n:Nat}(hv:ok v){w:World}(hC:Ch w T v n err)(ta:Addr)(ht:w.cell? ta=some old)(hf:w.frozen? ta=false)(hg:w.cell? ⟨1,0,none⟩=some (rT 201)):
  Calls Tryz.prog 235 #[err,.iface TP (.pointer (some ta))] w fun e w'=>e = .returned (.bool true)∧∃W,K0 w W∧w'=W.setCell ta v:=by
 obtain⟨t5,u5,he5⟩:=hC.shape
 subst he5
 refine H.enter Tryz.func235 Tryz.ntmps235 rfl rfl ?_; dsimp only[H.args]
 repeat' (first|(refine CL.seq ?_)|(refine CL.region ?_)|(refine Gt.nil ?_; refine RW.nilw [0,1,4,5,6,7,9,11,23,35] ?_; dsimp only[H.keep,H.look,H.Fr.put,Nat.beq])|(refine Gt.move ?_; refine RW.y (Y.move rfl) rfl ?_)|(refine Gt.assign ?_; refine RW.y (Y.assign rfl) rfl ?_))
 refine RW.y (Y.ifcNil (by kernel_rfl) rfl rfl) rfl ?_
 repeat' (first|(refine CL.seq ?_)|(refine CL.region ?_)|(refine CL.skip ?_)|(refine CL.condF rfl ?_)|(refine Gt.nil ?_; refine RW.nilw [0,1,4,5,6,7,9,11,23,35] ?_; dsimp only[H.keep,H.look,H.Fr.put,Nat.beq])|(refine Gt.move ?_; refine RW.y (Y.move rfl) rfl ?_))
 refine RW.y (Y.ifcNil (by kernel_rfl) rfl rfl) rfl ?_
 repeat' (first|(refine CL.seq ?_)|(refine CL.region ?_)|(refine CL.skip ?_)|(refine CL.condF rfl ?_)|(refine Gt.nil ?_; refine RW.nilw [0,1,4,5,6,7,9,11,23,35] ?_; dsimp only[H.keep,H.look,H.Fr.put,Nat.beq])|(refine Gt.move ?_; refine RW.y (Y.move rfl) rfl ?_))
 refine RW.extW rfl (B.tv _ ta) rfl ?_
 have hkv:K0 w (w.alloc (.cells #[.pointer (some ta)] TP)):=Kept.alloc w _
 have hcv:(w.alloc (.cells #[.pointer (some ta)] TP)).cell? ⟨w.heap.size,0,none⟩=some (.pointer (some ta)):=by rw[World.cell?_alloc_at _ _ _ _ (by simp)]; rfl
 generalize w.alloc (.cells #[.pointer (some ta)] TP)=w1 at *
 skip
 refine RW.alloc rfl (fun w2 hb2 hk2 hl2=>?_)
 refine RW.storeBlock rfl rfl rfl (fun z hz=>by simp[rV,hT] at hz; rcases hz with rfl|rfl|rfl <;> rfl) hb2 rfl (fun w3 hb3 hk3=>?_)
 repeat' (first|(refine CL.seq ?_)|(refine CL.region ?_)|(refine Gt.nil ?_; refine RW.nilw [0,1,4,5,6,7,9,11,23,35] ?_; dsimp only[H.keep,H.look,H.Fr.put,Nat.beq]))
 refine RW.y (Y.loadBlock rfl hb3 rfl) rfl ?_
 refine RW.extW rfl (B.tt _ _) rfl ?_
 repeat' (first|(refine CL.seq ?_)|(refine CL.region ?_)|(refine Gt.nil ?_; refine RW.nilw [0,1,4,5,6,7,9,11,23,35] ?_; dsimp only[H.keep,H.look,H.Fr.put,Nat.beq])|(refine Gt.move ?_; refine RW.y (Y.move rfl) rfl ?_)|(refine Gt.assign ?_; refine RW.y (Y.assign rfl) rfl ?_))
 refine RW.inv rfl rfl rfl (B.kn _) ?_
 repeat' (first|(refine Gt.move ?_; refine RW.y (Y.move rfl) rfl ?_)|(refine Gt.guard ?_; first|(refine RW.part rfl rfl rfl (fun _=>?_) (fun _=>?_) <;> try (exfalso; omega))|(refine RW.on rfl rfl rfl ?_))|(refine Gt.neq ?_; refine RW.y (Y.nei rfl rfl) rfl ?_))
 have hl1:=cell_lt2 hcv
 have hc3:=cell2 hk3 (cell2 hk2 hcv id) (by show ¬(w.heap.size=w1.heap.size); exact Nat.ne_of_lt hl1)
 refine RW.y (Y.loadBlock rfl hb3 rfl) rfl ?_
 repeat' ((refine Gt.guard ?_; (refine RW.on rfl rfl rfl ?_)))
 refine RW.extW rfl (B.nn w3 _ ta hc3) rfl ?_
 repeat' (first|(refine CL.seq ?_)|(refine CL.region ?_)|(refine CL.skip ?_)|(refine CL.condF rfl ?_)|(refine Gt.nil ?_; refine RW.nilw [0,1,4,5,6,7,9,11,23,35] ?_; dsimp only[H.keep,H.look,H.Fr.put,Nat.beq])|(refine Gt.move ?_; refine RW.y (Y.move rfl) rfl ?_)|(refine Gt.pick ?_; (refine RW.y (Y.pickF rfl rfl) rfl ?_)))
 refine RW.inv rfl rfl rfl (B.el _) ?_
 repeat' (first|(refine CL.seq ?_)|(refine CL.region ?_)|(refine Gt.nil ?_; refine RW.nilw [0,1,4,5,6,7,9,11,23,35] ?_; dsimp only[H.keep,H.look,H.Fr.put,Nat.beq])|(refine Gt.move ?_; refine RW.y (Y.move rfl) rfl ?_)|(refine Gt.assign ?_; refine RW.y (Y.assign rfl) rfl ?_))
 refine RW.inv rfl rfl rfl (B.ek _) ?_
 repeat' (first|(refine CL.seq ?_)|(refine CL.region ?_)|(refine CL.skip ?_)|(refine CL.condF rfl ?_)|(refine Gt.nil ?_; refine RW.nilw [0,1,4,5,6,7,9,11,23,35] ?_; dsimp only[H.keep,H.look,H.Fr.put,Nat.beq])|(refine Gt.move ?_; refine RW.y (Y.move rfl) rfl ?_)|(refine Gt.guard ?_; first|(refine RW.part rfl rfl rfl (fun _=>?_) (fun _=>?_) <;> try (exfalso; omega))|(refine RW.on rfl rfl rfl ?_)|(refine RW.off1 rfl rfl rfl rfl rfl ?_))|(refine Gt.neq ?_; refine RW.y (Y.nei rfl rfl) rfl ?_)|(refine Gt.pick ?_; (refine RW.y (Y.pickF rfl rfl) rfl ?_)))
 ·have K3:K0 w w3:=(hkv.trans0 hk2).trans hk3 fun k h=> .inr (by have h:k=w1.heap.size:=h; have:=hkv.size; omega)
  refine RW.y (Y.load1 rfl (cell2 K3 hg id)) rfl ?_
  repeat' ((refine Gt.guard ?_; (refine RW.on rfl rfl rfl ?_)))
  refine RW.inv rfl rfl rfl (B.im _) ?_
  repeat' (first|(refine CL.seq ?_)|(refine CL.region ?_)|(refine CL.skip ?_)|(refine CL.condF rfl ?_)|(refine Gt.nil ?_; refine RW.nilw [0,1,4,5,6,7,9,11,23,35] ?_; dsimp only[H.keep,H.look,H.Fr.put,Nat.beq])|(refine Gt.move ?_; refine RW.y (Y.move rfl) rfl ?_)|(refine Gt.guard ?_; (refine RW.on rfl rfl rfl ?_))|(refine Gt.pick ?_; (refine RW.y (Y.pickT rfl rfl) rfl ?_))|(refine Gt.not ?_; (refine RW.y (Y.notb rfl) rfl ?_)))
  refine RW.y (Y.loadBlock rfl hb3 rfl) rfl ?_
  repeat' ((refine Gt.move ?_; refine RW.y (Y.move rfl) rfl ?_))
  refine RW.fn rfl rfl ((asLoop A hv (hC.keep K3) ta ⟨w.heap.size,0,none⟩ (cell2 K3 ht id) (by rw[frozen2 K3 (cell_lt2 ht) id]; exact hf) hc3).mono ?_)
  rintro e w5 ⟨rfl,W,hW,rfl⟩
  repeat' (first|(refine CL.ret ?_)|(refine Gt.nil ?_; refine RW.nilw [0,1,4,5,6,7,9,11,23,35] ?_; dsimp only[H.keep,H.look,H.Fr.put,Nat.beq])|(refine Gt.assign ?_; refine RW.y (Y.assign rfl) rfl ?_))
  exact FQ.one rfl rfl rfl ⟨rfl,W,K3.trans0 hW,rfl⟩
 ·have:=B.ne
  simp_all
end Go.Proofs.YtbhbdeelpopgoaaGreatDoor.E

set_option linter.constructorNameAsVariable false
set_option linter.unusedVariables false
namespace Go.Proofs.YtbhbdeelpopgoaaGreatDoor.E
open Go Go.RowKit H Go.Extern Go.Extern.Stop
attribute [local irreducible] H.CL H.RW H.CW H.Yd H.thenK H.blockQ Go.Calls
theorem isA(t:Nat)(h:t=90∨t=350∨t=637)(w:World)(v:Value):(Instr.typeAssert (.iface t v) 201 577 true).run Tryz.prog w = .ok (.tuple #[.nilIface,.bool false]) w:=by
 rcases h with rfl|rfl|rfl <;> exact run_typeAssert_lacksB Tryz.underlying577 (by kernel_rfl) (by kernel_rfl) v _ w
theorem unE(w:World)(v:Value):(Instr.typeAssert (.iface 90 v) 201 519 true).run Tryz.prog w = .ok (.tuple #[.nilIface,.bool false]) w:=run_typeAssert_lacksB Tryz.underlying519 (by kernel_rfl) (by kernel_rfl) v _ w
theorem unsE(w:World)(v:Value):(Instr.typeAssert (.iface 90 v) 201 521 true).run Tryz.prog w = .ok (.tuple #[.nilIface,.bool false]) w:=run_typeAssert_lacksB Tryz.underlying521 (by kernel_rfl) (by kernel_rfl) v _ w
theorem ty59(w:World)(n:Int):(callFunc 373 #[.iface 90 (.int .i64 n)]).run Tryz.prog w = .ok (.value (rT 90)) w:=by kernel_rfl
theorem cmp59(w:World):(callMethod (rT 90) "Comparable" #[]).run Tryz.prog w = .ok (.value (.bool true)) w:=by kernel_rfl
theorem eqF(t:Nat)(h:t≠90)(v u:Value)(w:World):(binOp .eql 201 (.iface t v) (.iface 90 u)).run Tryz.prog w = .ok (.bool false) w:=run_eql_iface_types t 90 v u Tryz.underlying201 h w
theorem eqE(a b:Int)(w:World):(binOp .eql 201 (.iface 90 (.int .i64 a)) (.iface 90 (.int .i64 b))).run Tryz.prog w = .ok (.bool (a == b)) w:=Lib.run_eql_iface_int w a b Tryz.underlying201 (by kernel_rfl) Tryz.underlying90
set_option maxHeartbeats 2000000 in
theorem isLoop{m k:Int}{err:Value}{n:Nat}{w:World}(hC:Ch w 90 (.int .i64 m) n err):Calls Tryz.prog 374 #[err,.iface 90 (.int .i64 k),.bool true] w fun e w'=>e = .returned (.bool (m == k))∧K0 w w':=by
 refine H.enter Tryz.func374 Tryz.ntmps374 rfl rfl ?_; dsimp only[H.args]
 repeat' (first|(refine CL.seq ?_)|(refine CL.region ?_)|(refine CL.block ?_)|(refine Gt.nil ?_; refine RW.nilw [0,1,2,6,7,8,9,10,12,19,30,31,33,34,38,40,41,43,44,45,46,52] ?_; dsimp only[H.keep,H.look,H.Fr.put,Nat.beq])|(refine Gt.assign ?_; refine RW.y (Y.assign rfl) rfl ?_))
 refine CL.loopS [0,1,2] (fun j vals wr=>∃err,vals=[err,.iface 90 (.int .i64 k),.bool true]∧Ch w 90 (.int .i64 m) j err∧K0 w wr) n ⟨_,rfl,err,rfl,hC,Kept.refl _ _⟩ ?_
 rintro j vals wr ⟨er,rfl,hCr,hkr⟩
 dsimp only[List.zip,List.zipWith]
 cases hCr with
 | hit=>
  repeat' (first|(refine CL.seq ?_)|(refine CL.region ?_)|(refine CL.block ?_)|(refine Gt.move ?_; refine RW.y (Y.move rfl) rfl ?_)|(refine Gt.guard ?_; (refine RW.on rfl rfl rfl ?_)))
  refine RW.y (Y.ifcEq (eqE m k _) rfl rfl) rfl ?_
  cases hmk:m == k with
  | true=>
   repeat' (first|(refine CL.seq ?_)|(refine CL.region ?_)|(refine CL.condT rfl ?_)|(refine CL.ret ?_)|(refine Rt.then ?_)|(refine Rt.block ?_)|(refine Gt.nil ?_; refine RW.nilw [0,1,2,6,7,8,9,10,12,19,30,31,33,34,38,40,41,43,44,45,46,52] ?_; dsimp only[H.keep,H.look,H.Fr.put,Nat.beq])|(refine Gt.assign ?_; refine RW.y (Y.assign rfl) rfl ?_)|(refine Gt.pick ?_; (refine RW.y (Y.pickT rfl rfl) rfl ?_)))
   exact FQ.one rfl rfl rfl ⟨rfl,hkr⟩
  | false=>
   repeat' (first|(refine CL.seq ?_)|(refine CL.region ?_)|(refine CL.skip ?_)|(refine CL.condF rfl ?_)|(refine Gt.nil ?_; refine RW.nilw [0,1,2,6,7,8,9,10,12,19,30,31,33,34,38,40,41,43,44,45,46,52] ?_; dsimp only[H.keep,H.look,H.Fr.put,Nat.beq])|(refine Gt.move ?_; refine RW.y (Y.move rfl) rfl ?_)|(refine Gt.pick ?_; (refine RW.y (Y.pickT rfl rfl) rfl ?_)))
   refine RW.y (Y.asrt rfl (isA 90 (.inl rfl) _ _)) rfl ?_
   repeat' (first|(refine CL.seq ?_)|(refine CL.region ?_)|(refine CL.skip ?_)|(refine CL.condF rfl ?_)|(refine CL.block ?_)|(refine Gt.nil ?_; refine RW.nilw [0,1,2,6,7,8,9,10,12,19,30,31,33,34,38,40,41,43,44,45,46,52] ?_; dsimp only[H.keep,H.look,H.Fr.put,Nat.beq])|(refine Gt.move ?_; refine RW.y (Y.move rfl) rfl ?_)|(refine Gt.guard ?_; (refine RW.off1 rfl rfl rfl rfl rfl ?_))|(refine Gt.assign ?_; refine RW.y (Y.assign rfl) rfl ?_)|(refine Gt.extract ?_; refine RW.y (Y.extract rfl rfl) rfl ?_)|(refine Gt.pick ?_; (refine RW.y (Y.pickF rfl rfl) rfl ?_)))
   refine RW.y (Y.asrt rfl (unE _ _)) rfl ?_
   repeat' (first|(refine CL.seq ?_)|(refine CL.region ?_)|(refine CL.condF rfl ?_)|(refine Gt.nil ?_; refine RW.nilw [0,1,2,6,7,8,9,10,12,19,30,31,33,34,38,40,41,43,44,45,46,52] ?_; dsimp only[H.keep,H.look,H.Fr.put,Nat.beq])|(refine Gt.extract ?_; refine RW.y (Y.extract rfl rfl) rfl ?_))
   refine RW.y (Y.asrt rfl (unsE _ _)) rfl ?_
   repeat' (first|(refine CL.seq ?_)|(refine CL.region ?_)|(refine CL.condF rfl ?_)|(refine CL.ret ?_)|(refine Rt.then ?_)|(refine Rt.block ?_)|(refine Gt.nil ?_; refine RW.nilw [0,1,2,6,7,8,9,10,12,19,30,31,33,34,38,40,41,43,44,45,46,52] ?_; dsimp only[H.keep,H.look,H.Fr.put,Nat.beq])|(refine Gt.assign ?_; refine RW.y (Y.assign rfl) rfl ?_)|(refine Gt.extract ?_; refine RW.y (Y.extract rfl rfl) rfl ?_))
   exact FQ.one rfl rfl rfl ⟨rfl,hkr⟩
 | fau hc hC2=>
  obtain⟨t5,u5,he5⟩:=hC2.shape
  subst he5
  repeat' (first|(refine CL.seq ?_)|(refine CL.region ?_)|(refine CL.block ?_)|(refine Gt.move ?_; refine RW.y (Y.move rfl) rfl ?_)|(refine Gt.guard ?_; (refine RW.on rfl rfl rfl ?_)))
  refine RW.y (Y.ifcEq (eqF 350 (by decide) _ _ _) rfl rfl) rfl ?_
  repeat' (first|(refine CL.seq ?_)|(refine CL.region ?_)|(refine CL.skip ?_)|(refine CL.condF rfl ?_)|(refine Gt.nil ?_; refine RW.nilw [0,1,2,6,7,8,9,10,12,19,30,31,33,34,38,40,41,43,44,45,46,52] ?_; dsimp only[H.keep,H.look,H.Fr.put,Nat.beq])|(refine Gt.move ?_; refine RW.y (Y.move rfl) rfl ?_)|(refine Gt.pick ?_; (refine RW.y (Y.pickT rfl rfl) rfl ?_)))
  refine RW.y (Y.asrt rfl (isA 350 (.inr (.inl rfl)) _ _)) rfl ?_
  repeat' (first|(refine CL.seq ?_)|(refine CL.region ?_)|(refine CL.skip ?_)|(refine CL.condF rfl ?_)|(refine CL.block ?_)|(refine Gt.nil ?_; refine RW.nilw [0,1,2,6,7,8,9,10,12,19,30,31,33,34,38,40,41,43,44,45,46,52] ?_; dsimp only[H.keep,H.look,H.Fr.put,Nat.beq])|(refine Gt.move ?_; refine RW.y (Y.move rfl) rfl ?_)|(refine Gt.guard ?_; (refine RW.off1 rfl rfl rfl rfl rfl ?_))|(refine Gt.assign ?_; refine RW.y (Y.assign rfl) rfl ?_)|(refine Gt.extract ?_; refine RW.y (Y.extract rfl rfl) rfl ?_)|(refine Gt.pick ?_; (refine RW.y (Y.pickF rfl rfl) rfl ?_)))
  refine RW.y (Y.asrt rfl (unF _ _)) rfl ?_
  repeat' (first|(refine CL.seq ?_)|(refine CL.region ?_)|(refine CL.condT rfl ?_)|(refine Gt.nil ?_; refine RW.nilw [0,1,2,6,7,8,9,10,12,19,30,31,33,34,38,40,41,43,44,45,46,52] ?_; dsimp only[H.keep,H.look,H.Fr.put,Nat.beq])|(refine Gt.move ?_; refine RW.y (Y.move rfl) rfl ?_)|(refine Gt.assign ?_; refine RW.y (Y.assign rfl) rfl ?_)|(refine Gt.extract ?_; refine RW.y (Y.extract rfl rfl) rfl ?_))
  refine RW.invE rfl rfl rfl (mF _ _) ((unwF (cell2 hkr hc id)).mono ?_)
  rintro e w5 ⟨rfl,rfl⟩
  repeat' (first|(refine CL.seq ?_)|(refine CL.region ?_)|(refine Gt.nil ?_; refine RW.nilw [0,1,2,6,7,8,9,10,12,19,30,31,33,34,38,40,41,43,44,45,46,52] ?_; dsimp only[H.keep,H.look,H.Fr.put,Nat.beq])|(refine Gt.move ?_; refine RW.y (Y.move rfl) rfl ?_)|(refine Gt.assign ?_; refine RW.y (Y.assign rfl) rfl ?_))
  refine RW.y (Y.ifcNil (by kernel_rfl) rfl rfl) rfl ?_
  repeat' (first|(refine CL.skip ?_)|(refine CL.condF rfl ?_)|(refine CL.done ?_)|(refine Nm.block ?_)|(refine Nm.then ?_)|(refine Gt.nil ?_; refine RW.nilw [0,1,2,6,7,8,9,10,12,19,30,31,33,34,38,40,41,43,44,45,46,52] ?_; dsimp only[H.keep,H.look,H.Fr.put,Nat.beq]))
  exact⟨_,_,rfl,rfl,rfl,Nat.lt_succ_self _,_,rfl,hC2,hkr⟩
 | con hT2 hc hC2=>
  obtain⟨t5,u5,he5⟩:=hC2.shape
  subst he5
  repeat' (first|(refine CL.seq ?_)|(refine CL.region ?_)|(refine CL.block ?_)|(refine Gt.move ?_; refine RW.y (Y.move rfl) rfl ?_)|(refine Gt.guard ?_; (refine RW.on rfl rfl rfl ?_)))
  refine RW.y (Y.ifcEq (eqF 637 (by decide) _ _ _) rfl rfl) rfl ?_
  repeat' (first|(refine CL.seq ?_)|(refine CL.region ?_)|(refine CL.skip ?_)|(refine CL.condF rfl ?_)|(refine Gt.nil ?_; refine RW.nilw [0,1,2,6,7,8,9,10,12,19,30,31,33,34,38,40,41,43,44,45,46,52] ?_; dsimp only[H.keep,H.look,H.Fr.put,Nat.beq])|(refine Gt.move ?_; refine RW.y (Y.move rfl) rfl ?_)|(refine Gt.pick ?_; (refine RW.y (Y.pickT rfl rfl) rfl ?_)))
  refine RW.y (Y.asrt rfl (isA 637 (.inr (.inr rfl)) _ _)) rfl ?_
  repeat' (first|(refine CL.seq ?_)|(refine CL.region ?_)|(refine CL.skip ?_)|(refine CL.condF rfl ?_)|(refine CL.block ?_)|(refine Gt.nil ?_; refine RW.nilw [0,1,2,6,7,8,9,10,12,19,30,31,33,34,38,40,41,43,44,45,46,52] ?_; dsimp only[H.keep,H.look,H.Fr.put,Nat.beq])|(refine Gt.move ?_; refine RW.y (Y.move rfl) rfl ?_)|(refine Gt.guard ?_; (refine RW.off1 rfl rfl rfl rfl rfl ?_))|(refine Gt.assign ?_; refine RW.y (Y.assign rfl) rfl ?_)|(refine Gt.extract ?_; refine RW.y (Y.extract rfl rfl) rfl ?_)|(refine Gt.pick ?_; (refine RW.y (Y.pickF rfl rfl) rfl ?_)))
  refine RW.y (Y.asrt rfl (unC _ _)) rfl ?_
  repeat' (first|(refine CL.seq ?_)|(refine CL.region ?_)|(refine CL.condT rfl ?_)|(refine Gt.nil ?_; refine RW.nilw [0,1,2,6,7,8,9,10,12,19,30,31,33,34,38,40,41,43,44,45,46,52] ?_; dsimp only[H.keep,H.look,H.Fr.put,Nat.beq])|(refine Gt.move ?_; refine RW.y (Y.move rfl) rfl ?_)|(refine Gt.assign ?_; refine RW.y (Y.assign rfl) rfl ?_)|(refine Gt.extract ?_; refine RW.y (Y.extract rfl rfl) rfl ?_))
  refine RW.invE rfl rfl rfl (mC _ _) ((unwC (cell2 hkr hc id)).mono ?_)
  rintro e w5 ⟨rfl,rfl⟩
  repeat' (first|(refine CL.seq ?_)|(refine CL.region ?_)|(refine Gt.nil ?_; refine RW.nilw [0,1,2,6,7,8,9,10,12,19,30,31,33,34,38,40,41,43,44,45,46,52] ?_; dsimp only[H.keep,H.look,H.Fr.put,Nat.beq])|(refine Gt.move ?_; refine RW.y (Y.move rfl) rfl ?_)|(refine Gt.assign ?_; refine RW.y (Y.assign rfl) rfl ?_))
  refine RW.y (Y.ifcNil (by kernel_rfl) rfl rfl) rfl ?_
  repeat' (first|(refine CL.skip ?_)|(refine CL.condF rfl ?_)|(refine CL.done ?_)|(refine Nm.block ?_)|(refine Nm.then ?_)|(refine Gt.nil ?_; refine RW.nilw [0,1,2,6,7,8,9,10,12,19,30,31,33,34,38,40,41,43,44,45,46,52] ?_; dsimp only[H.keep,H.look,H.Fr.put,Nat.beq]))
  exact⟨_,_,rfl,rfl,rfl,Nat.lt_succ_self _,_,rfl,hC2,hkr⟩
theorem isTop{m k:Int}{err:Value}{n:Nat}{w:World}(hC:Ch w 90 (.int .i64 m) n err):Calls Tryz.prog 306 #[err,.iface 90 (.int .i64 k)] w fun e w'=>e = .returned (.bool (m == k))∧K0 w w':=by
 obtain⟨t5,u5,he5⟩:=hC.shape
 subst he5
 refine H.enter Tryz.func306 Tryz.ntmps306 rfl rfl ?_; dsimp only[H.args]
 repeat' (first|(refine CL.seq ?_)|(refine CL.region ?_)|(refine Gt.nil ?_; refine RW.nilw [0,1,4,5,11] ?_; dsimp only[H.keep,H.look,H.Fr.put,Nat.beq])|(refine Gt.move ?_; refine RW.y (Y.move rfl) rfl ?_)|(refine Gt.assign ?_; refine RW.y (Y.assign rfl) rfl ?_))
 refine RW.y (Y.ifcNil (by kernel_rfl) rfl rfl) rfl ?_
 repeat' (first|(refine Gt.move ?_; refine RW.y (Y.move rfl) rfl ?_)|(refine Gt.guard ?_; (refine RW.on rfl rfl rfl ?_)))
 refine RW.y (Y.ifcNil (by kernel_rfl) rfl rfl) rfl ?_
 repeat' (first|(refine CL.seq ?_)|(refine CL.region ?_)|(refine CL.skip ?_)|(refine CL.condF rfl ?_)|(refine Gt.nil ?_; refine RW.nilw [0,1,4,5,11] ?_; dsimp only[H.keep,H.look,H.Fr.put,Nat.beq])|(refine Gt.move ?_; refine RW.y (Y.move rfl) rfl ?_)|(refine Gt.pick ?_; (refine RW.y (Y.pickF rfl rfl) rfl ?_)))
 refine RW.extW rfl (ty59 _ _) rfl ?_
 refine RW.inv rfl rfl rfl (cmp59 _) ?_
 repeat' (first|(refine CL.seq ?_)|(refine CL.region ?_)|(refine Gt.nil ?_; refine RW.nilw [0,1,4,5,11] ?_; dsimp only[H.keep,H.look,H.Fr.put,Nat.beq])|(refine Gt.move ?_; refine RW.y (Y.move rfl) rfl ?_)|(refine Gt.assign ?_; refine RW.y (Y.assign rfl) rfl ?_))
 refine RW.fn rfl rfl ((isLoop hC).mono ?_)
 rintro e w5 ⟨rfl,hk⟩
 repeat' (first|(refine CL.ret ?_)|(refine Gt.nil ?_; refine RW.nilw [0,1,4,5,11] ?_; dsimp only[H.keep,H.look,H.Fr.put,Nat.beq])|(refine Gt.assign ?_; refine RW.y (Y.assign rfl) rfl ?_))
 exact FQ.one rfl rfl rfl ⟨rfl,hk⟩
end Go.Proofs.YtbhbdeelpopgoaaGreatDoor.E

set_option linter.constructorNameAsVariable false
set_option linter.unusedVariables false
namespace Go.Proofs.YtbhbdeelpopgoaaGreatDoor.E
open Go Go.RowKit H Go.Extern Go.Extern.Stop
attribute [local irreducible] H.CL H.RW H.CW H.Yd H.thenK H.blockQ Go.Calls
noncomputable def chK(T:Nat)(h:Hp)(k:AV→Bool)(n:Nat):AV→Bool:=Nat.rec (motive:=fun _=>AV→Bool) (fun _=>false) (fun _ ih e=>match e with
 | .ifc ty v=>ife (Nat.beq ty T) (k v) (ife (Nat.beq ty 350) (qPtr v fun i o=>cellsK h i fun _ _ _ cs=>nthK cs (Nat.add o 2) ih) (ife (Nat.beq ty 637) (ife (Nat.beq T 637) false (qPtr v fun i o=>cellsK h i fun _ _ _ cs=>nthK cs (Nat.add o 1) ih)) false))
 | _=>false) n
theorem cell_at{S:Nat→Prop}{w0 w:World}{fl:Nat}{r:Ren}{h:Hp}(hR:Rel S w0 fl r h w){i:Nat}{p:Nat×Nat}(hp:r i=some p){t:TypeId}{o ro:Bool}{cs:List AV}(hb:h.at i=some (.cells t o ro cs)){j:Nat}{a:AV}(hj:cs[j]?=some a): ∃u,real r a=some u∧w.cell? ⟨p.1,j,none⟩=some u:=by
 obtain⟨c,fz,us,e1,e2,e3,_⟩:=hR.at hp hb
 obtain⟨u,hu,hur⟩:=reals_at e3 hj
 exact⟨u,hur,cell_of (hR.at hp hb) e3 hu⟩
theorem chK_ok{T:Nat}{h:Hp}{k:AV→Bool}(hT:T≠350): ∀{n:Nat} {e:AV},chK T h k n e=true→∃v,k v=true∧∀{S:Nat→Prop} {w0:World} {fl:Nat} {r:Ren} {w:World} {x:Value},Rel S w0 fl r h w→real r e=some x→∃u j,real r v=some u∧Ch w T u j x
 | 0,e,hk=>by cases hk
 | n+1,e,hk=>by
  cases e with
  | ifc ty v=>
   rcases ife_ok (b:=Nat.beq ty T) hk with ⟨ht,hk1⟩|⟨_,hk1⟩
   ·refine⟨v,hk1,fun {S w0 fl r w x} hR hx=>?_⟩
    obtain⟨u,hu,rfl⟩:=real_ifc hx
    rw[Nat.eq_of_beq_eq_true ht]
    exact⟨u,0,hu,.hit⟩
   rcases ife_ok hk1 with ⟨ht,hk2⟩|⟨_,hk2⟩
   ·obtain⟨i,o,rfl,hk3⟩:=qPtr_ok (x:=v) hk2
    obtain⟨t,op,ro,cs,hb,hk4⟩:=cellsK_ok hk3
    obtain⟨a,ha,hk5⟩:=nthK_ok hk4
    obtain⟨v2,hk6,hC⟩:=chK_ok hT (n:=n) hk5
    refine⟨v2,hk6,fun {S w0 fl r w x} hR hx=>?_⟩
    obtain⟨u,hu,rfl⟩:=real_ifc hx
    obtain⟨p,hp,rfl⟩:=real_ptr hu
    obtain⟨y,hy,hc⟩:=cell_at hR hp hb ha
    obtain⟨u2,j,h1,h2⟩:=hC hR hy
    rw[Nat.eq_of_beq_eq_true ht]
    exact⟨u2,j+1,h1,.fau hc h2⟩
   rcases ife_ok hk2 with ⟨ht,hk3⟩|⟨_,hk3⟩
   ·rcases ife_ok hk3 with ⟨_,hk4⟩|⟨hT2,hk4⟩
    ·cases hk4
    obtain⟨i,o,rfl,hk5⟩:=qPtr_ok (x:=v) hk4
    obtain⟨t,op,ro,cs,hb,hk6⟩:=cellsK_ok hk5
    obtain⟨a,ha,hk7⟩:=nthK_ok hk6
    obtain⟨v2,hk8,hC⟩:=chK_ok hT (n:=n) hk7
    refine⟨v2,hk8,fun {S w0 fl r w x} hR hx=>?_⟩
    obtain⟨u,hu,rfl⟩:=real_ifc hx
    obtain⟨p,hp,rfl⟩:=real_ptr hu
    obtain⟨y,hy,hc⟩:=cell_at hR hp hb ha
    obtain⟨u2,j,h1,h2⟩:=hC hR hy
    rw[Nat.eq_of_beq_eq_true ht]
    exact⟨u2,j+1,h1,.con (fun c=>by rw[c] at hT2; simp at hT2) hc h2⟩
   ·cases hk3
  | _=>cases hk
noncomputable def tkE(h:Hp)(k:Bool):Bool:=cellsK h 1 fun _ _ _ cs=>nthK cs 0 fun x=>ask (avEq x (.ifc 512 (.agg [.ptr 9 201]))) k
theorem tkE_ok{h:Hp}{k:Bool}(hk:tkE h k=true):k=true∧∀{S:Nat→Prop} {w0:World} {fl:Nat} {r:Ren} {w:World},Rel S w0 fl r h w→w.cell? ⟨1,0,none⟩=some (rT 201):=by
 obtain⟨t,op,ro,cs,hb,hk1⟩:=cellsK_ok hk
 obtain⟨a,ha,hk2⟩:=nthK_ok hk1
 obtain⟨he,hk3⟩:=ask_ok hk2
 obtain rfl:=avEq_ok _ _ he
 refine⟨hk3,fun {S w0 fl r w} hR=>?_⟩
 obtain⟨p,hp,_⟩:=hR.live _ _ (Nat.lt_of_lt_of_le (by decide) hR.base.2) hb
 obtain⟨u,hu,hc⟩:=cell_at hR hp hb ha
 have h1:=hR.glob _ p (by decide) hp
 rw[h1] at hc
 obtain⟨y,hy,rfl⟩:=real_ifc hu
 obtain⟨us,hus,rfl⟩:=real_agg hy
 obtain⟨z,hz,rfl⟩:=reals1 hus
 obtain⟨q,hq,rfl⟩:=real_ptr hz
 have h2:=hR.glob 9 q (by decide) hq
 rw[hc,h2]
 rfl
noncomputable def okA(T:Nat)(v:AV)(k:Bool):Bool:=ife (Nat.beq T 90) (qInt v fun i _=>ask (kEq i .i64) k) (qPtr v fun _ _=>k)
noncomputable def asP1(fl:Nat)(T TP:Nat)(h:Hp)(k:KV)(e:AV)(i o:Nat):Bool:=tkE h (chK T h (fun v=>okA T v (ask (Nat.ble fl i) (cellsK h i fun bt op ro cs=>ife ro false (nthK cs o fun _=>setK1 v cs o fun cs=>putH h i (.cells bt op ro cs) fun h=>k (.bool true) h)))) 20 e)
noncomputable def asP(fl:Nat)(vs:List AV)(h:Hp)(k:KV):Bool:=two2 vs fun e t=>match e with
 | .nili=>k (.bool false) h
 | e=>match t with
  | .ifc tt (.ptr i o)=>ife (Nat.beq tt 349) (asP1 fl 90 349 h k e i o) (ife (Nat.beq tt 638) (asP1 fl 637 638 h k e i o) false)
  | _=>false
theorem asP1_ok{T TP:Nat}{ok:Value→Prop}{fl1 fl2 kd:Int}(A:AsT T TP ok fl1 fl2)(B:AsT2 T TP kd)(hok : ∀v k,okA T v k=true→k=true∧∀r u,real r v=some u→ok u){fl:Nat}{h:Hp}{k:KV}{e:AV}{i o:Nat}(hk:asP1 fl T TP h k e i o=true): ∃v h',k v h'=true∧∀S w0 r w xs,Rel S w0 fl r h w→reals r [e,.ifc TP (.ptr i o)]=some xs→Calls Tryz.prog 235 xs.toArray w fun e w'=>∃r' x,e = .returned x∧Ext r r'∧Rel S w0 fl r' h' w'∧real r' v=some x:=by
 obtain⟨hk1,hg⟩:=tkE_ok hk
 obtain⟨v,hk2,hC⟩:=chK_ok A.fau.1 hk1
 obtain⟨hk3,ho⟩:=hok _ _ hk2
 obtain⟨hfl,hk4⟩:=ask_ok hk3
 obtain⟨bt,op,ro,cs,hb,hk5⟩:=cellsK_ok hk4
 rcases ife_ok hk5 with ⟨_,hk6⟩|⟨hro,hk6⟩
 ·cases hk6
 obtain⟨old,hold,hk7⟩:=nthK_ok hk6
 rw[setK1_eq,putH_eq] at hk7
 refine⟨_,_,hk7,fun S w0 r w xs hR hxs=>?_⟩
 obtain⟨x,y,hx,hy,rfl⟩:=reals2 hxs
 obtain⟨y2,hy2,rfl⟩:=real_ifc hy
 obtain⟨p,hp,rfl⟩:=real_ptr hy2
 obtain⟨u,j,hu,hch⟩:=hC hR hx
 obtain⟨u0,hu0,hc0⟩:=cell_at hR hp hb hold
 obtain⟨c,fz,us,e1,e2,e3,e4,e5,e6,e7⟩:=hR.at hp hb
 have hol:o < cs.length:=(List.getElem?_eq_some_iff.1 hold).1
 have hnf:w.frozen? ⟨p.1,o,none⟩=false:=by
  simp only[World.frozen?,e1]
  rcases e7 hro with q|q
  ·simp; omega
  ·simp; omega
 refine(asTop A B (ho r u hu) hch ⟨p.1,o,none⟩ hc0 hnf (hg hR)).mono ?_
 rintro e w' ⟨rfl,W,hW,rfl⟩
 have eW:W.heap[p.1]?=some (.cells c bt fz):=(hW.block _ (hR.dom i p hp) id).trans e1
 refine⟨r,_,rfl,Ext.refl r,(hR.same hW).put (ble_of hfl) hp hb (Kept.setCell W ⟨p.1,o,none⟩ u) ⟨c.setIfInBounds o u,fz,us.set o u,H.heap_setCell_same eW u,by simpa using e2,reals_set o e3 hu,?_,by simpa using e5,by simpa using e6,e7⟩,rfl⟩
 rw[Array.toList_setIfInBounds,List.length_set,List.take_set,←e4]
theorem pr_238{fl:Nat}:Pr1 Tryz.prog fl 235 fun _ vs h kr _=>asP fl vs h kr:=by
 refine Pr1.mem fun vs h k hk=>?_
 obtain⟨e,t,rfl,hk1⟩:=two2_ok hk
 clear hk
 have h59 : ∀v k,okA 90 v k=true→k=true∧∀r u,real r v=some u→∃n,u = .int .i64 n:=fun v k h=>by
  obtain⟨i,n,rfl,h1⟩:=qInt_ok (x:=v) (show(qInt v fun i _=>ask (kEq i .i64) k)=true from h)
  obtain⟨h2,h3⟩:=ask_ok h1
  obtain rfl:=kEq_ok h2
  exact⟨h3,fun r u hu=>⟨n,real_int hu⟩⟩
 have h640 : ∀v k,okA 637 v k=true→k=true∧∀r u,real r v=some u→∃p,u = .pointer (some p):=fun v k h=>by
  obtain⟨i,n,rfl,h1⟩:=qPtr_ok (x:=v) (show(qPtr v fun _ _=>k)=true from h)
  exact⟨h1,fun r u hu=>by obtain⟨p,_,rfl⟩:=real_ptr hu; exact⟨_,rfl⟩⟩
 have main : ∀i o tt,(ife (Nat.beq tt 349) (asP1 fl 90 349 h k e i o) (ife (Nat.beq tt 638) (asP1 fl 637 638 h k e i o) false))=true→∃v h',k v h'=true∧∀S w0 r w xs,Rel S w0 fl r h w→reals r [e,.ifc tt (.ptr i o)]=some xs→Calls Tryz.prog 235 xs.toArray w fun e w'=>∃r' x,e = .returned x∧Ext r r'∧Rel S w0 fl r' h' w'∧real r' v=some x:=by
  intro i o tt hk
  rcases ife_ok hk with ⟨ht,hk2⟩|⟨_,hk2⟩
  ·rw[Nat.eq_of_beq_eq_true ht]
   exact asP1_ok as59 as59b h59 hk2
  rcases ife_ok hk2 with ⟨ht,hk3⟩|⟨_,hk3⟩
  ·rw[Nat.eq_of_beq_eq_true ht]
   exact asP1_ok as640 as640b h640 hk3
  ·cases hk3
 split at hk1
 ·refine⟨_,_,hk1,fun S w0 r w xs hR hxs=>?_⟩
  obtain⟨x,y,hx,hy,rfl⟩:=reals2 hxs
  cases hx
  refine(asNil y w).mono ?_
  rintro e w' ⟨rfl,rfl⟩
  exact⟨r,_,rfl,Ext.refl r,hR,rfl⟩
 ·split at hk1
  ·exact main _ _ _ hk1
  ·cases hk1
noncomputable def isP(vs:List AV)(h:Hp)(k:AV→Bool):Bool:=match vs with
 | [e,.ifc 90 (.int .i64 b)]=>chK 90 h (fun v=>qInt v fun i a=>ask (kEq i .i64) (boolK (iEq a b) fun z=>k (.bool z))) 20 e
 | _=>false
theorem pr_309{fl:Nat}:Pr1 Tryz.prog fl 306 fun _ vs h kr _=>isP vs h fun v=>kr v h:=by
 refine Pr1.val fun vs h k hk=>?_
 unfold isP at hk
 split at hk
 ·rename_i e b
  obtain⟨v,hk1,hC⟩:=chK_ok (by decide) hk
  obtain⟨i,a,rfl,hk2⟩:=qInt_ok (x:=v) hk1
  obtain⟨hi,hk3⟩:=ask_ok hk2
  obtain rfl:=kEq_ok hi
  rw[boolK_eq,iEq_eq] at hk3
  refine⟨_,hk3,fun S w0 r w xs hR hxs=>?_⟩
  obtain⟨x,y,hx,hy,rfl⟩:=reals2 hxs
  obtain⟨u,j,hu,hch⟩:=hC hR hx
  have hu:=real_int hu; subst hu
  obtain⟨y2,hy2,rfl⟩:=real_ifc hy
  have hy2:=real_int hy2; subst hy2
  refine(isTop hch).mono ?_
  rintro e w' ⟨rfl,hK⟩
  exact⟨_,rfl,hK,by simp[real,BEq.beq]⟩
 ·cases hk
end Go.Proofs.YtbhbdeelpopgoaaGreatDoor.E

set_option linter.constructorNameAsVariable false
set_option linter.unusedVariables false
namespace Go.Proofs.YtbhbdeelpopgoaaGreatDoor.E
open Go Go.RowKit H
section
variable {M : Option (Option Nat)} {P : Program} {ops : Array Oper} {Q : Post} {rest : List Oper} {f f1 : Fr} {w w' : World} {d ty : Nat} {pos : String} {af : Array Edge}
theorem Ag.less{a:Act}(h:Ag f a)(hn:f1.n=f.n)(hd:f1.ds=f.ds)(hs : ∀t v,H.look f1.e t=some v→H.look f.e t=some v):Ag f1 a:=⟨h.size.trans hn.symm,h.defers.trans hd.symm,fun t v hv=>h.slot t v (hs t v hv)⟩
theorem RW.ins{t:TypeId}{m:Nat}{x y z:Operand}{kv v:Value}{w':World}(hx:f.ev x=some (.map (some m)))(hy:f.ev y=some kv)(hz:f.ev z=some v)(hr:(Instr.mapUpdate t (.map (some m)) kv v).run P w = .ok () w')(k:RW M P ops Q rest f w'):RW M P ops Q (op0 (.insert t x y z) ty pos af::rest) f w:=
 RW.gen rfl (fun t h=>by cases h) (.inr ⟨rfl,rfl⟩) (fun a ha=>by simp[execOp,ha.eval hx,ha.eval hy,ha.eval hz,hr]) k
end
attribute [local irreducible] H.CL H.RW H.CW H.Yd H.thenK H.blockQ Go.Calls
def bN:ByteArray:=⟨#[110,97,109,101]⟩
def bV:ByteArray:=⟨#[118,101,114,115,105,111,110]⟩
abbrev MM:TypeId:=166
def eN(v:Value)(b:Nat):MapEntry:={key:= .string bN,val:=v,born:=b}
def eV(v:Value)(b:Nat):MapEntry:={key:= .string bV,val:=v,born:=b}
def setM(w:World)(m:Nat)(o:Obj):World:={w with heap:=w.heap.setIfInBounds m o}
theorem setM_at{w:World}{m:Nat}{o:Obj}(o':Obj)(h:w.heap[m]?=some o):(setM w m o').heap[m]?=some o'∧Kept (fun k=>k=m) w (setM w m o'):=by
 have hl:=lt_of_at h
 refine⟨by simp[setM,hl],rfl,rfl,rfl,by simp[setM],fun k hk hn=>?_⟩
 simp only[setM]
 rw[Array.getElem?_setIfInBounds_ne (fun c=>hn c.symm)]
theorem ins_at{w:World}{m:Nat}{es:Array MapEntry}{ck:Nat}{s:ByteArray}(v:Value)(h:w.heap[m]?=some (.map es ck))(hf : ∀W,(Instr.findKey 9 (.string s) es.toList).run Tryz.prog W = .ok none W):(Instr.mapUpdate MM (.map (some m)) (.string s) v).run Tryz.prog w = .ok () (setM w m (.map (es.push {key:= .string s,val:=v,born:=ck}) (ck+1))):=by
 have hk:(Instr.checkKey false 10000 9 (.string s)).run Tryz.prog w = .ok () w:=by kernel_rfl
 have hu:Tryz.prog.underlying MM=some (.map 9 9):=by kernel_rfl
 simp only[Instr.mapUpdate,Sem.run_bind,run_underlying hu,Result.andThen_ok,MapKept.run_getObj_map h,hk,hf w]
 exact run_setMap h _
theorem fN(W:World):(Instr.findKey 9 (.string bN) []).run Tryz.prog W = .ok none W:=by kernel_rfl
theorem fV(W:World):(Instr.findKey 9 (.string bV) []).run Tryz.prog W = .ok none W:=by kernel_rfl
theorem RW.insE{M:Option (Option Nat)}{ops:Array Oper}{Q:Post}{rest:List Oper}{f:Fr}{w:World}{ty:TypeId}{pos:String}{af:Array Edge}{m:Nat}{x y z:Operand}{s:ByteArray}{v:Value}{es:Array MapEntry}{ck:Nat}(hx:f.ev x=some (.map (some m)))(hy:f.ev y=some (.string s))(hz:f.ev z=some v)(hm:w.heap[m]?=some (.map es ck))(hf : ∀W,(Instr.findKey 9 (.string s) es.toList).run Tryz.prog W = .ok none W)
  (k : ∀w',w'.heap[m]?=some (.map (es.push {key:= .string s,val:=v,born:=ck}) (ck+1))→Kept (fun k=>k=m) w w'→RW M Tryz.prog ops Q rest f w'):RW M Tryz.prog ops Q (op0 (.insert MM x y z) ty pos af::rest) f w:=
 RW.ins hx hy hz (ins_at v hm hf) (k _ (setM_at _ hm).1 (setM_at _ hm).2)
end Go.Proofs.YtbhbdeelpopgoaaGreatDoor.E

set_option linter.constructorNameAsVariable false
set_option linter.unusedVariables false
namespace Go.Proofs.YtbhbdeelpopgoaaGreatDoor.E
open Go Go.RowKit H
theorem CW_less{P:Program}{M:Option (Option Nat)}{Q:Post}{c:Code}{f f1:Fr}{w:World}(hn:f1.n=f.n)(hd:f1.ds=f.ds)(hs : ∀t v,H.look f1.e t=some v→H.look f.e t=some v)(h:CW M P Q c f1 w):CW M P Q c f w:=fun a ha=>h a (Ag.less ha hn hd hs)
attribute [local irreducible] H.CL H.RW H.CW H.Yd H.thenK H.blockQ Go.Calls
noncomputable def drawn(id:Nat)(c:Code):Array Oper:=Code.rec (motive:=fun _=>Array Oper) #[] (fun i ops d=>ifeV d (ifeV (Nat.beq i id) ops #[]) #[]) (fun _ _ a b=>ifeV (Nat.beq a.size 0) b a) (fun _ _ _ a b=>ifeV (Nat.beq a.size 0) b a) (fun _ _ a=>a) (fun _ a=>a) (fun _ _ _ _ _ _=>#[]) (fun _=>#[]) (fun _ _=>#[]) (fun _=>#[]) (fun _=>#[]) #[] (fun _=>#[]) c
noncomputable def R8:Array Oper:=Option.rec (motive:=fun _=>Array Oper) #[] (fun c=>drawn 8 c) Tryz.f303.body
theorem verL{p:Nat}{c:Array Value}{e0:TypeId}{fz:Nat×Nat}{ver:List Value}(hv : ∀j v,ver[j]?=some v→c.toList[1+j]?=some v){W:World}(h:W.heap[p]?=some (.cells c e0 fz)): ∀j v,ver[j]?=some v→W.cell? ((⟨p,1,none⟩:Addr).add j)=some v:=fun j v hj=>by
 have:=hv j v hj
 have e:W.cell? ⟨p,1+j,none⟩=some v:=by
  rw[cell_row (off:=1) h]
  simpa using this
 unfold Addr.add
 split
 ·rename_i hj0; subst hj0; exact e
 ·exact e
def Q8(n:Nat)(ds:List Deferred)(R:Value→Value→Value→World→Prop):Post
 | .normal,f,w=>∃x y z,R x y z w∧f.n=n∧f.ds=ds∧H.look f.e 9=some x∧H.look f.e 10=some y∧H.look f.e 11=some z
 | _,_,_=>False
instance {n:Nat} {ds:List Deferred} {R:Value→Value→Value→World→Prop}:PI (Q8 n ds R):=⟨fun _ _ _ _ _ h=>h⟩
set_option maxRecDepth 20000 in
set_option maxHeartbeats 2000000 in
theorem reg8(id n:Nat)(ds:List Deferred)(w:World)(lv tv:Value)(p:Nat)(nm:Value)(vt:ByteArray)(ver:List Value)(c:Array Value)(e0:TypeId)(fz:Nat×Nat)(hn:n=47)
  (hb:w.heap[p]?=some (.cells c e0 fz)) (h0:c.toList[0]?=some nm) (hv : ∀j v,ver[j]?=some v→c.toList[1+j]?=some v) (hvl:ver.length=4)
  (htxt : ∀W,K0 w W→Calls Tryz.prog 369 #[.agg ver.toArray] W fun e w'=>e = .returned (.string vt)∧K0 W w')
  (R:Value→Value→Value→World→Prop)
  (hrun : ∀W m es,K0 w W→w.heap.size≤m→W.heap[m]?=some (.map es 2)→(es=#[eN nm 0,eV (.string vt) 1]∨es=#[eV (.string vt) 0,eN nm 1])→Calls Tryz.prog 368 #[lv,tv,.map (some m),.int .i64 65536] W fun e w'=>∃x y z,e = .returned (.tuple #[x,y,z])∧R x y z w'∧∃fz,w'.heap[p]?=some (.cells c e0 fz)) :
  CW none Tryz.prog (Q8 n ds R) (.region id R8 true) ⟨n,ds,[(1,tv),(2,.pointer (some ⟨p,0,none⟩)),(7,lv)]⟩ w:=by
 subst hn
 refine(fun(hR:R8=#[_,_,_,_,_,_,_,_,_,_,_,_,_,_,_,_,_,_,_])=>?_) rfl
 rw[hR]
 skip
 refine CL.one ?_
 refine CL.draw (fun w'=>∃fz,w'.heap[p]?=some (.cells c e0 fz)) (by kernel_rfl) (fun wd hheap hk1=>?_)
 have hK:K0 w wd:=hk1
 have hS0 : ∃fz,wd.heap[p]?=some (.cells c e0 fz):=⟨fz,hK.at0 hb⟩
 skip
 refine AW.take 0 rfl (by kernel_rfl) (by kernel_rfl) (by kernel_rfl) rfl (by assumption) (fun w hS=>Y.move rfl) ?_
 refine AW.take 1 rfl (by kernel_rfl) (by kernel_rfl) (by kernel_rfl) rfl (by assumption) (fun w hS=>Y.move rfl) ?_
 refine AW.take 3 rfl (by kernel_rfl) (by kernel_rfl) (by kernel_rfl) rfl (by assumption) (fun w hS=>Y.fieldAddr rfl (by rfl)) ?_
 refine AW.take 4 rfl (by kernel_rfl) (by kernel_rfl) (by kernel_rfl) rfl (by assumption) (fun w hS=>Y.loadB rfl hS.choose_spec h0) ?_
 refine AW.take 6 rfl (by kernel_rfl) (by kernel_rfl) (by kernel_rfl) rfl (by assumption) (fun w hS=>Y.fieldAddr rfl (by rfl)) ?_
 refine AW.take 7 rfl (by kernel_rfl) (by kernel_rfl) (by kernel_rfl) rfl (by assumption) (fun w hS=>Y.loadN (cs:=ver) rfl hvl (verL hv hS.choose_spec)) ?_
 refine AW.two 2 8 rfl rfl (by kernel_rfl) ?_ ?_
 ·have hma:=hK.size
  obtain⟨m,hmm⟩ : ∃m:Nat,wd.heap.size=m:=⟨_,rfl⟩
  refine RW.mkmap rfl (fun wd hm hkn hln=>?_)
  rw[hmm] at hm hln hma
  rw[hmm]
  have hK:=hK.trans0 hkn
  have hS0 : ∃fz,wd.heap[p]?=some (.cells c e0 fz):=⟨fz,hK.at0 hb⟩
  refine RW.nil (Nm.then ⟨hS0,?_⟩)
  refine AW.two 5 8 rfl rfl (by kernel_rfl) ?_ ?_
  ·first
    | refine RW.insE rfl rfl rfl hm fN (fun wd hm hkn=>?_)
    | refine RW.insE rfl rfl rfl hm (fNV _ _) (fun wd hm hkn=>?_)
   have hK:=hK.trans hkn fun k h=> .inr (by have h:k=m:=h; omega)
   have hS0 : ∃fz,wd.heap[p]?=some (.cells c e0 fz):=⟨fz,hK.at0 hb⟩
   refine RW.nil (Nm.then ⟨hS0,?_⟩)
   refine AW.next 8 rfl (by kernel_rfl) ?_
   refine RW.fn rfl rfl ((htxt wd hK).mono ?_)
   rintro e wd ⟨rfl,hkd⟩
   have hK:=hK.trans0 hkd
   try replace hm:=hkd.at0 hm
   have hS0 : ∃fz,wd.heap[p]?=some (.cells c e0 fz):=⟨fz,hK.at0 hb⟩
   refine RW.nil (Nm.then ⟨hS0,?_⟩)
   refine AW.next 9 rfl (by kernel_rfl) ?_
   first
    | refine RW.insE rfl rfl rfl hm fV (fun wd hm hkn=>?_)
    | refine RW.insE rfl rfl rfl hm (fVN _ _) (fun wd hm hkn=>?_)
   have hK:=hK.trans hkn fun k h=> .inr (by have h:k=m:=h; omega)
   have hS0 : ∃fz,wd.heap[p]?=some (.cells c e0 fz):=⟨fz,hK.at0 hb⟩
   refine RW.nil (Nm.then ⟨hS0,?_⟩)
   refine AW.take 10 rfl (by kernel_rfl) (by kernel_rfl) (by kernel_rfl) rfl (by assumption) (fun w hS=>Y.move rfl) ?_
   refine AW.next 11 rfl (by kernel_rfl) ?_
   refine RW.fn rfl rfl ((hrun wd m _ hK hma hm (by exact .inl rfl)).mono ?_)
   rintro e wd ⟨x,y,z,rfl,hR5,hS5⟩
   refine RW.nil (Nm.then ⟨hS5,?_⟩)
   refine AW.take 12 rfl (by kernel_rfl) (by kernel_rfl) (by kernel_rfl) rfl (by assumption) (fun w hS=>Y.move rfl) ?_
   refine AW.take 13 rfl (by kernel_rfl) (by kernel_rfl) (by kernel_rfl) rfl (by assumption) (fun w hS=>Y.extract rfl rfl) ?_
   refine AW.take 14 rfl (by kernel_rfl) (by kernel_rfl) (by kernel_rfl) rfl (by assumption) (fun w hS=>Y.extract rfl rfl) ?_
   refine AW.take 15 rfl (by kernel_rfl) (by kernel_rfl) (by kernel_rfl) rfl (by assumption) (fun w hS=>Y.extract rfl rfl) ?_
   refine AW.take 16 rfl (by kernel_rfl) (by kernel_rfl) (by kernel_rfl) rfl (by assumption) (fun w hS=>Y.assign rfl) ?_
   refine AW.take 17 rfl (by kernel_rfl) (by kernel_rfl) (by kernel_rfl) rfl (by assumption) (fun w hS=>Y.assign rfl) ?_
   refine AW.take 18 rfl (by kernel_rfl) (by kernel_rfl) (by kernel_rfl) rfl (by assumption) (fun w hS=>Y.assign rfl) ?_
   refine AW.donew [9,10,11] (by kernel_rfl) ?_
   dsimp only[H.keep,H.look,H.Fr.put,Nat.beq]
   exact cl_nil ⟨x,y,z,hR5,rfl,rfl,rfl,rfl,rfl⟩
  ·refine RW.fn rfl rfl ((htxt wd hK).mono ?_)
   rintro e wd ⟨rfl,hkd⟩
   have hK:=hK.trans0 hkd
   try replace hm:=hkd.at0 hm
   have hS0 : ∃fz,wd.heap[p]?=some (.cells c e0 fz):=⟨fz,hK.at0 hb⟩
   refine RW.nil (Nm.then ⟨hS0,?_⟩)
   refine AW.two 5 9 rfl rfl (by kernel_rfl) ?_ ?_
   ·first
     | refine RW.insE rfl rfl rfl hm fN (fun wd hm hkn=>?_)
     | refine RW.insE rfl rfl rfl hm (fNV _ _) (fun wd hm hkn=>?_)
    have hK:=hK.trans hkn fun k h=> .inr (by have h:k=m:=h; omega)
    have hS0 : ∃fz,wd.heap[p]?=some (.cells c e0 fz):=⟨fz,hK.at0 hb⟩
    refine RW.nil (Nm.then ⟨hS0,?_⟩)
    refine AW.next 9 rfl (by kernel_rfl) ?_
    first
     | refine RW.insE rfl rfl rfl hm fV (fun wd hm hkn=>?_)
     | refine RW.insE rfl rfl rfl hm (fVN _ _) (fun wd hm hkn=>?_)
    have hK:=hK.trans hkn fun k h=> .inr (by have h:k=m:=h; omega)
    have hS0 : ∃fz,wd.heap[p]?=some (.cells c e0 fz):=⟨fz,hK.at0 hb⟩
    refine RW.nil (Nm.then ⟨hS0,?_⟩)
    refine AW.take 10 rfl (by kernel_rfl) (by kernel_rfl) (by kernel_rfl) rfl (by assumption) (fun w hS=>Y.move rfl) ?_
    refine AW.next 11 rfl (by kernel_rfl) ?_
    refine RW.fn rfl rfl ((hrun wd m _ hK hma hm (by exact .inl rfl)).mono ?_)
    rintro e wd ⟨x,y,z,rfl,hR5,hS5⟩
    refine RW.nil (Nm.then ⟨hS5,?_⟩)
    refine AW.take 12 rfl (by kernel_rfl) (by kernel_rfl) (by kernel_rfl) rfl (by assumption) (fun w hS=>Y.move rfl) ?_
    refine AW.take 13 rfl (by kernel_rfl) (by kernel_rfl) (by kernel_rfl) rfl (by assumption) (fun w hS=>Y.extract rfl rfl) ?_
    refine AW.take 14 rfl (by kernel_rfl) (by kernel_rfl) (by kernel_rfl) rfl (by assumption) (fun w hS=>Y.extract rfl rfl) ?_
    refine AW.take 15 rfl (by kernel_rfl) (by kernel_rfl) (by kernel_rfl) rfl (by assumption) (fun w hS=>Y.extract rfl rfl) ?_
    refine AW.take 16 rfl (by kernel_rfl) (by kernel_rfl) (by kernel_rfl) rfl (by assumption) (fun w hS=>Y.assign rfl) ?_
    refine AW.take 17 rfl (by kernel_rfl) (by kernel_rfl) (by kernel_rfl) rfl (by assumption) (fun w hS=>Y.assign rfl) ?_
    refine AW.take 18 rfl (by kernel_rfl) (by kernel_rfl) (by kernel_rfl) rfl (by assumption) (fun w hS=>Y.assign rfl) ?_
    refine AW.donew [9,10,11] (by kernel_rfl) ?_
    dsimp only[H.keep,H.look,H.Fr.put,Nat.beq]
    exact cl_nil ⟨x,y,z,hR5,rfl,rfl,rfl,rfl,rfl⟩
   ·first
     | refine RW.insE rfl rfl rfl hm fV (fun wd hm hkn=>?_)
     | refine RW.insE rfl rfl rfl hm (fVN _ _) (fun wd hm hkn=>?_)
    have hK:=hK.trans hkn fun k h=> .inr (by have h:k=m:=h; omega)
    have hS0 : ∃fz,wd.heap[p]?=some (.cells c e0 fz):=⟨fz,hK.at0 hb⟩
    refine RW.nil (Nm.then ⟨hS0,?_⟩)
    refine AW.next 5 rfl (by kernel_rfl) ?_
    first
     | refine RW.insE rfl rfl rfl hm fN (fun wd hm hkn=>?_)
     | refine RW.insE rfl rfl rfl hm (fNV _ _) (fun wd hm hkn=>?_)
    have hK:=hK.trans hkn fun k h=> .inr (by have h:k=m:=h; omega)
    have hS0 : ∃fz,wd.heap[p]?=some (.cells c e0 fz):=⟨fz,hK.at0 hb⟩
    refine RW.nil (Nm.then ⟨hS0,?_⟩)
    refine AW.take 10 rfl (by kernel_rfl) (by kernel_rfl) (by kernel_rfl) rfl (by assumption) (fun w hS=>Y.move rfl) ?_
    refine AW.next 11 rfl (by kernel_rfl) ?_
    refine RW.fn rfl rfl ((hrun wd m _ hK hma hm (by exact .inr rfl)).mono ?_)
    rintro e wd ⟨x,y,z,rfl,hR5,hS5⟩
    refine RW.nil (Nm.then ⟨hS5,?_⟩)
    refine AW.take 12 rfl (by kernel_rfl) (by kernel_rfl) (by kernel_rfl) rfl (by assumption) (fun w hS=>Y.move rfl) ?_
    refine AW.take 13 rfl (by kernel_rfl) (by kernel_rfl) (by kernel_rfl) rfl (by assumption) (fun w hS=>Y.extract rfl rfl) ?_
    refine AW.take 14 rfl (by kernel_rfl) (by kernel_rfl) (by kernel_rfl) rfl (by assumption) (fun w hS=>Y.extract rfl rfl) ?_
    refine AW.take 15 rfl (by kernel_rfl) (by kernel_rfl) (by kernel_rfl) rfl (by assumption) (fun w hS=>Y.extract rfl rfl) ?_
    refine AW.take 16 rfl (by kernel_rfl) (by kernel_rfl) (by kernel_rfl) rfl (by assumption) (fun w hS=>Y.assign rfl) ?_
    refine AW.take 17 rfl (by kernel_rfl) (by kernel_rfl) (by kernel_rfl) rfl (by assumption) (fun w hS=>Y.assign rfl) ?_
    refine AW.take 18 rfl (by kernel_rfl) (by kernel_rfl) (by kernel_rfl) rfl (by assumption) (fun w hS=>Y.assign rfl) ?_
    refine AW.donew [9,10,11] (by kernel_rfl) ?_
    dsimp only[H.keep,H.look,H.Fr.put,Nat.beq]
    exact cl_nil ⟨x,y,z,hR5,rfl,rfl,rfl,rfl,rfl⟩
 ·refine RW.fn rfl rfl ((htxt wd hK).mono ?_)
  rintro e wd ⟨rfl,hkd⟩
  have hK:=hK.trans0 hkd
  try replace hm:=hkd.at0 hm
  have hS0 : ∃fz,wd.heap[p]?=some (.cells c e0 fz):=⟨fz,hK.at0 hb⟩
  refine RW.nil (Nm.then ⟨hS0,?_⟩)
  refine AW.next 2 rfl (by kernel_rfl) ?_
  have hma:=hK.size
  obtain⟨m,hmm⟩ : ∃m:Nat,wd.heap.size=m:=⟨_,rfl⟩
  refine RW.mkmap rfl (fun wd hm hkn hln=>?_)
  rw[hmm] at hm hln hma
  rw[hmm]
  have hK:=hK.trans0 hkn
  have hS0 : ∃fz,wd.heap[p]?=some (.cells c e0 fz):=⟨fz,hK.at0 hb⟩
  refine RW.nil (Nm.then ⟨hS0,?_⟩)
  refine AW.two 5 9 rfl rfl (by kernel_rfl) ?_ ?_
  ·first
    | refine RW.insE rfl rfl rfl hm fN (fun wd hm hkn=>?_)
    | refine RW.insE rfl rfl rfl hm (fNV _ _) (fun wd hm hkn=>?_)
   have hK:=hK.trans hkn fun k h=> .inr (by have h:k=m:=h; omega)
   have hS0 : ∃fz,wd.heap[p]?=some (.cells c e0 fz):=⟨fz,hK.at0 hb⟩
   refine RW.nil (Nm.then ⟨hS0,?_⟩)
   refine AW.next 9 rfl (by kernel_rfl) ?_
   first
    | refine RW.insE rfl rfl rfl hm fV (fun wd hm hkn=>?_)
    | refine RW.insE rfl rfl rfl hm (fVN _ _) (fun wd hm hkn=>?_)
   have hK:=hK.trans hkn fun k h=> .inr (by have h:k=m:=h; omega)
   have hS0 : ∃fz,wd.heap[p]?=some (.cells c e0 fz):=⟨fz,hK.at0 hb⟩
   refine RW.nil (Nm.then ⟨hS0,?_⟩)
   refine AW.take 10 rfl (by kernel_rfl) (by kernel_rfl) (by kernel_rfl) rfl (by assumption) (fun w hS=>Y.move rfl) ?_
   refine AW.next 11 rfl (by kernel_rfl) ?_
   refine RW.fn rfl rfl ((hrun wd m _ hK hma hm (by exact .inl rfl)).mono ?_)
   rintro e wd ⟨x,y,z,rfl,hR5,hS5⟩
   refine RW.nil (Nm.then ⟨hS5,?_⟩)
   refine AW.take 12 rfl (by kernel_rfl) (by kernel_rfl) (by kernel_rfl) rfl (by assumption) (fun w hS=>Y.move rfl) ?_
   refine AW.take 13 rfl (by kernel_rfl) (by kernel_rfl) (by kernel_rfl) rfl (by assumption) (fun w hS=>Y.extract rfl rfl) ?_
   refine AW.take 14 rfl (by kernel_rfl) (by kernel_rfl) (by kernel_rfl) rfl (by assumption) (fun w hS=>Y.extract rfl rfl) ?_
   refine AW.take 15 rfl (by kernel_rfl) (by kernel_rfl) (by kernel_rfl) rfl (by assumption) (fun w hS=>Y.extract rfl rfl) ?_
   refine AW.take 16 rfl (by kernel_rfl) (by kernel_rfl) (by kernel_rfl) rfl (by assumption) (fun w hS=>Y.assign rfl) ?_
   refine AW.take 17 rfl (by kernel_rfl) (by kernel_rfl) (by kernel_rfl) rfl (by assumption) (fun w hS=>Y.assign rfl) ?_
   refine AW.take 18 rfl (by kernel_rfl) (by kernel_rfl) (by kernel_rfl) rfl (by assumption) (fun w hS=>Y.assign rfl) ?_
   refine AW.donew [9,10,11] (by kernel_rfl) ?_
   dsimp only[H.keep,H.look,H.Fr.put,Nat.beq]
   exact cl_nil ⟨x,y,z,hR5,rfl,rfl,rfl,rfl,rfl⟩
  ·first
    | refine RW.insE rfl rfl rfl hm fV (fun wd hm hkn=>?_)
    | refine RW.insE rfl rfl rfl hm (fVN _ _) (fun wd hm hkn=>?_)
   have hK:=hK.trans hkn fun k h=> .inr (by have h:k=m:=h; omega)
   have hS0 : ∃fz,wd.heap[p]?=some (.cells c e0 fz):=⟨fz,hK.at0 hb⟩
   refine RW.nil (Nm.then ⟨hS0,?_⟩)
   refine AW.next 5 rfl (by kernel_rfl) ?_
   first
    | refine RW.insE rfl rfl rfl hm fN (fun wd hm hkn=>?_)
    | refine RW.insE rfl rfl rfl hm (fNV _ _) (fun wd hm hkn=>?_)
   have hK:=hK.trans hkn fun k h=> .inr (by have h:k=m:=h; omega)
   have hS0 : ∃fz,wd.heap[p]?=some (.cells c e0 fz):=⟨fz,hK.at0 hb⟩
   refine RW.nil (Nm.then ⟨hS0,?_⟩)
   refine AW.take 10 rfl (by kernel_rfl) (by kernel_rfl) (by kernel_rfl) rfl (by assumption) (fun w hS=>Y.move rfl) ?_
   refine AW.next 11 rfl (by kernel_rfl) ?_
   refine RW.fn rfl rfl ((hrun wd m _ hK hma hm (by exact .inr rfl)).mono ?_)
   rintro e wd ⟨x,y,z,rfl,hR5,hS5⟩
   refine RW.nil (Nm.then ⟨hS5,?_⟩)
   refine AW.take 12 rfl (by kernel_rfl) (by kernel_rfl) (by kernel_rfl) rfl (by assumption) (fun w hS=>Y.move rfl) ?_
   refine AW.take 13 rfl (by kernel_rfl) (by kernel_rfl) (by kernel_rfl) rfl (by assumption) (fun w hS=>Y.extract rfl rfl) ?_
   refine AW.take 14 rfl (by kernel_rfl) (by kernel_rfl) (by kernel_rfl) rfl (by assumption) (fun w hS=>Y.extract rfl rfl) ?_
   refine AW.take 15 rfl (by kernel_rfl) (by kernel_rfl) (by kernel_rfl) rfl (by assumption) (fun w hS=>Y.extract rfl rfl) ?_
   refine AW.take 16 rfl (by kernel_rfl) (by kernel_rfl) (by kernel_rfl) rfl (by assumption) (fun w hS=>Y.assign rfl) ?_
   refine AW.take 17 rfl (by kernel_rfl) (by kernel_rfl) (by kernel_rfl) rfl (by assumption) (fun w hS=>Y.assign rfl) ?_
   refine AW.take 18 rfl (by kernel_rfl) (by kernel_rfl) (by kernel_rfl) rfl (by assumption) (fun w hS=>Y.assign rfl) ?_
   refine AW.donew [9,10,11] (by kernel_rfl) ?_
   dsimp only[H.keep,H.look,H.Fr.put,Nat.beq]
   exact cl_nil ⟨x,y,z,hR5,rfl,rfl,rfl,rfl,rfl⟩
end Go.Proofs.YtbhbdeelpopgoaaGreatDoor.E

set_option linter.constructorNameAsVariable false
set_option linter.unusedVariables false
namespace Go.Proofs.YtbhbdeelpopgoaaGreatDoor.E
open Go Go.RowKit H
attribute [local irreducible] H.CL H.RW H.CW H.Yd H.thenK H.blockQ Go.Calls
noncomputable def sN:List Nat:=[110,97,109,101]
noncomputable def sV:List Nat:=[118,101,114,115,105,111,110]
noncomputable def tupK(v:AV)(k:AV→AV→AV→Bool):Bool:=match v with
 | .tup [x,y,z]=>k x y z
 | _=>false
theorem tupK_ok{v:AV}{k:AV→AV→AV→Bool}(h:tupK v k=true): ∃x y z,v = .tup [x,y,z]∧k x y z=true:=by
 unfold tupK at h
 split at h
 ·exact⟨_,_,_,rfl,h⟩
 ·cases h
noncomputable def out8(n:Nat)(v:AV)(h:Hp)(k:KS):Bool:=tupK v fun x y z=>setE n (some 9) x .e fun e=>setE n (some 10) y e fun e=>setE n (some 11) z e fun e=>k .nm e h
noncomputable def run8(n:Nat)(call:CallF)(l tr:AV)(i:Nat)(ty:TypeId)(cs:List AV)(m:Nat)(h:Hp)(k:KS):Bool:=call 368 [l,tr,.map m,.int .i64 65536] h
 (fun v h'=>ask (cellsK h' i fun t op _ cs'=>ask (Nat.beq t ty) (ife op false (avEq (.agg cs') (.agg cs)))) (out8 n v h' k)) (fun _ _=>false)
noncomputable def pin8(cs:List AV)(k:AV→List AV→Bool):Bool:=match cs with
 | nm::a::b::c::d::_=>k nm [a,b,c,d]
 | _=>false
theorem pin8_ok{cs:List AV}{k:AV→List AV→Bool}(h:pin8 cs k=true): ∃nm a b c d t,cs=nm::a::b::c::d::t∧k nm [a,b,c,d]=true:=by
 unfold pin8 at h
 split at h
 ·exact⟨_,_,_,_,_,_,rfl,h⟩
 ·cases h
noncomputable def drX(callF:Nat→CallF)(n:Nat)(call:CallF):DrawF:=fun ops env h k=>ask (Nat.beq n 47) (getV 7 env fun l=>getV 1 env fun tr=>getV 2 env fun b=>qPtr b fun i o=>ask (Nat.beq o 0) (cellsK h i fun ty op _ cs=>ife op false (pin8 cs fun nm ver=>
 callF h.next 369 [.agg ver] h (fun v _=>qStr v fun s=>ask (s.all fun b=>Nat.blt b 256) (newH h (.mp [.str sN,.str sV] [nm,.str s] [0,1] 2) fun m hA=>newH h (.mp [.str sV,.str sN] [.str s,nm] [0,1] 2) fun _ hB=>
  ask (run8 n call l tr i ty cs m hA k) (run8 n call l tr i ty cs m hB k))) (fun _ _=>false))))
theorem out8_ok{n:Nat}{v:AV}{h:Hp}{k:KS}(hk:out8 n v h k=true): ∃x y z env',v = .tup [x,y,z]∧k .nm env' h=true∧∀(r:Ren) (f:Fr) X Y Z,real r x=some X→real r y=some Y→real r z=some Z→H.look f.e 9=some X→H.look f.e 10=some Y→H.look f.e 11=some Z→FrOk r env' f:=by
 obtain⟨x,y,z,rfl,hk1⟩:=tupK_ok hk
 obtain⟨e1,hk2,_,s1⟩:=setE_ok (d:=some 9) hk1
 obtain⟨e2,hk3,_,s2⟩:=setE_ok (d:=some 10) hk2
 obtain⟨e3,hk4,_,s3⟩:=setE_ok (d:=some 11) hk3
 refine⟨x,y,z,e3,rfl,hk4,fun r f X Y Z hx hy hz l1 l2 l3=>?_⟩
 have h0:FrOk r (.e:Tr AV) f:=fun t v _ hv=>by rw[Tr.get_e] at hv; cases hv
 have h3:=s3 r _ Z (s2 r _ Y (s1 r f X h0 hx) hy) hz
 intro t v ht hv
 obtain⟨u,hu,hl⟩:=h3 t v ht hv
 refine⟨u,hu,?_⟩
 rw[←hl]
 show H.look f.e t=H.look ((11,Z)::(10,Y)::(9,X)::f.e) t
 simp only[H.look]
 by_cases a:t=11
 ·subst a; simp[l3]
 by_cases b:t=10
 ·subst b; simp[l2]
 by_cases c:t=9
 ·subst c; simp[l1]
 ·have q : ∀{j:Nat},¬t=j→Nat.beq j t=false:=fun {j} hj=>by cases e:Nat.beq j t with
   | false=>rfl
   | true=>exact absurd (Nat.eq_of_beq_eq_true e).symm hj
  simp only[q a,q b,q c]
theorem regs8: ∀fn c,Tryz.prog.funcs[303]?=some fn→fn.body=some c→Regs (fun ops=>ops=R8) c:=by
 intro fn c hf hb
 rw[Tryz.func303] at hf
 cases hf
 injection hb with hb
 subst hb
 simp only[Regs]
 repeat' (trivial)
theorem drX_ok{fl n:Nat}{callF:Nat→CallF}{call:CallF}(hF : ∀fl,CallOk Tryz.prog fl (callF fl))(hc:CallOk Tryz.prog fl call):DrawWk Tryz.prog fl n (fun ops=>ops=R8) (drX callF n call):=by
 intro ops env h k hG hk
 subst hG
 obtain⟨hn,hk⟩:=ask_ok hk
 have hn:=Nat.eq_of_beq_eq_true hn
 obtain⟨l,hl,hk⟩:=getV_ok hk
 obtain⟨tr,htr,hk⟩:=getV_ok hk
 obtain⟨b,hb,hk⟩:=getV_ok hk
 obtain⟨i,o,rfl,hk1⟩:=qPtr_ok (x:=b) hk
 clear hk
 obtain⟨ho,hk⟩:=ask_ok hk1
 have ho:=Nat.eq_of_beq_eq_true ho
 obtain⟨ty,op,ro,cs,hbk,hk⟩:=cellsK_ok hk
 rcases ife_ok hk with ⟨_,hk⟩|⟨hop,hk⟩
 ·cases hk
 obtain⟨nm,a,b,c,d,t,hcs,hk⟩:=pin8_ok hk
 have hF1:=hF _ _ _ _ _ _ hk
 obtain⟨v,h1,hk3,hT⟩:=hF1.resolve_right (fun⟨_,_,hk,_⟩=>by cases hk)
 obtain⟨s,rfl,hk4⟩:=qStr_ok (x:=v) hk3
 obtain⟨hbs,hk2⟩:=ask_ok hk4
 replace hbs:Bytes s:=hbs
 clear hk
 obtain⟨g1,hk⟩:=newH_ok hk2
 obtain⟨g2,hk⟩:=newH_ok hk
 obtain⟨hA,hB⟩:=ask_ok hk
 have two : ∀hX,run8 n call l tr i ty cs h.next hX k=true→∃v h',(cellsK h' i fun t op _ cs'=>ask (Nat.beq t ty) (ife op false (avEq (.agg cs') (.agg cs))))=true∧out8 n v h' k=true∧∀S w0 r w xs,Rel S w0 fl r hX w→reals r [l,tr,.map h.next,.int .i64 65536]=some xs→Calls Tryz.prog 368 xs.toArray w fun e w'=>∃r' x,e = .returned x∧Ext r r'∧Rel S w0 fl r' h' w'∧real r' v=some x:=by
  intro hX hk
  rcases hc _ _ _ _ _ hk with ⟨v,h',hk,hT⟩|⟨_,_,hk,_⟩
  ·obtain⟨q1,q2⟩:=ask_ok hk
   exact⟨v,h',q1,q2,hT⟩
  ·cases hk
 obtain⟨vA,hA',cA,kA,CA⟩:=two _ hA
 obtain⟨vB,hB',cB,kB,CB⟩:=two _ hB
 obtain⟨xA,yA,zA,eA,rA,kA2,FA⟩:=out8_ok kA
 obtain⟨xB,yB,zB,eB,rB,kB2,FB⟩:=out8_ok kB
 refine⟨⟨_,_,_,kA2⟩,fun id S w0 r f w Q hfn hf hR hE=>?_⟩
 obtain⟨lv,hlv,hl7⟩:=hf 7 l (by decide) hl
 obtain⟨tv,htv,hl1⟩:=hf 1 tr (by decide) htr
 obtain⟨bv,hbv,hl2⟩:=hf 2 _ (by decide) hb
 obtain⟨p,hp,rfl⟩:=real_ptr hbv
 rw[ho] at hl2
 obtain⟨cc,fz,us,e1,e2,e3,e4,e5,e6,e7⟩:=hR.at hp hbk
 have hfull:us=cc.toList:=by
  rw[e4,List.take_of_length_le]
  rw[Array.length_toList,e2,e6 hop]
  exact Nat.le_refl _
 rw[hcs] at e3
 obtain⟨nv,us1,hnv,h3a,hus1⟩:=reals_cons.1 e3
 have hver : ∃ver us2,reals r [a,b,c,d]=some ver∧us1=ver++us2:=by
  obtain⟨a',u2,ha',h3b,q2⟩:=reals_cons.1 h3a
  obtain⟨b',u3,hb',h3c,q3⟩:=reals_cons.1 h3b
  obtain⟨c',u4,hc',h3d,q4⟩:=reals_cons.1 h3c
  obtain⟨d',u5,hd',h3e,q5⟩:=reals_cons.1 h3d
  exact⟨[a',b',c',d'],u5,reals_cons.2 ⟨_,_,ha',reals_cons.2 ⟨_,_,hb',reals_cons.2 ⟨_,_,hc',reals_cons.2 ⟨_,_,hd',reals_nil,rfl⟩,rfl⟩,rfl⟩,rfl⟩,by rw[q2,q3,q4,q5]; rfl⟩
 obtain⟨ver,us2,hver,q2⟩:=hver
 have hcl:cc.toList=nv::(ver++us2):=by rw[←hfull,hus1,q2]
 have hvl:ver.length=4:=reals_len hver
 let R:Value→Value→Value→World→Prop:=fun X Y Z w'=>∃h' env' r' x y z,k .nm env' h'=true∧Ext r r'∧Rel S w0 fl r' h' w'∧real r' x=some X∧real r' y=some Y∧real r' z=some Z∧∀(f:Fr),H.look f.e 9=some X→H.look f.e 10=some Y→H.look f.e 11=some Z→FrOk r' env' f
 have sbytes : ∀{r':Ren} {x:Value},real r' (.str s)=some x→Bytes s∧x = .string (B (textOf s)):=fun hx=>by
  obtain⟨h1,h2⟩:=real_str hx
  exact⟨h1,h2⟩
 have same : ∀{r':Ren} {h':Hp} {w':World},Ext r r'→Rel S w0 fl r' h' w'→(cellsK h' i fun t op _ cs'=>ask (Nat.beq t ty) (ife op false (avEq (.agg cs') (.agg cs))))=true→∃fz,w'.heap[p.1]?=some (.cells cc ty fz):=by
  intro r' h' w' hx hR' hk
  obtain⟨t',op',ro',cs',hb',hk1⟩:=cellsK_ok hk
  obtain⟨ht',hk2⟩:=ask_ok hk1
  rcases ife_ok hk2 with ⟨_,hk3⟩|⟨hop',hk3⟩
  ·cases hk3
  have hcs':=avEq_ok _ _ hk3
  injection hcs' with hcs'
  rw[hcs',Nat.eq_of_beq_eq_true ht'] at hb'
  obtain⟨c2,fz2,us3,f1,f2,f3,f4,f5,f6,f7⟩:=hR'.at (hx.v i p hp) hb'
  rw[hcs] at f3
  have:=reals_mono hx _ _ e3
  rw[f3] at this
  injection this with this
  have hc2:c2.toList=cc.toList:=by
   rw[←hfull,←this,f4,List.take_of_length_le]
   rw[Array.length_toList,f2,f6 hop']
   exact Nat.le_refl _
  exact⟨fz2,by rw[f1,Array.ext' hc2]⟩
 have hvt : ∀W,K0 w W→Calls Tryz.prog 369 #[.agg ver.toArray] W fun e w'=>Bytes s∧e = .returned (.string (B (textOf s)))∧K0 W w':=by
  intro W hK
  refine(hT _ W r W [.agg ver.toArray] (hR.same hK).floor (reals_cons.2 ⟨_,_,by simp only[real,hver,Option.map_some],reals_nil,rfl⟩)).mono ?_
  rintro e w' ⟨r',x,rfl,hx,hR',hxv⟩
  obtain⟨z1,rfl⟩:=sbytes hxv
  exact⟨z1,rfl,hR'.kept⟩
 have h8:=reg8 id n f.ds w lv tv p.1 nv (B (textOf s)) ver cc ty fz hn e1 (by rw[hcl]; rfl) (fun j v hj=>by
   rw[hcl,Nat.add_comm 1 j,List.getElem?_cons_succ,List.getElem?_append_left (List.getElem?_eq_some_iff.1 hj).1]
   exact hj) hvl (fun W hK=>(hvt W hK).mono fun e w' ⟨_,h2,h3⟩=>⟨h2,h3⟩) R ?_
 ·refine CW_less (f:=f) (f1:=⟨n,f.ds,[(1,tv),(2,.pointer (some ⟨p.1,0,none⟩)),(7,lv)]⟩) hfn.symm rfl (fun t v ht=>?_) (h8.mono ?_)
  ·simp only[H.look] at ht
   split at ht
   ·rename_i q; rw[←Nat.eq_of_beq_eq_true q]; cases ht; exact hl1
   split at ht
   ·rename_i q; rw[←Nat.eq_of_beq_eq_true q]; cases ht; exact hl2
   split at ht
   ·rename_i q; rw[←Nat.eq_of_beq_eq_true q]; cases ht; exact hl7
   ·cases ht
  ·intro x f' w' hq
   cases x with
   | normal=>
    obtain⟨X,Y,Z,⟨h',env',r',x,y,z,hk,hx,hR',h1,h2,h3,hF⟩,g1,g2,g3,g4,g5⟩:=hq
    exact hE .nm env' h' hk r' f' w' g1 g2 hx (hF f' g3 g4 g5) hR'
   | _=>cases hq
 ·intro W m es hK hm hbm hes
  have R0:=hR.same hK
  have im : ∀i q,r i=some q→q.1≠m:=fun i q hq=>by have:=hR.dom i q hq; omega
  have hsz:=hR.kept.size
  have fin : ∀{hX:Hp} {vX:AV} {h':Hp},Rel S w0 fl (upd r h.next (m,0)) hX W→(cellsK h' i fun t op _ cs'=>ask (Nat.beq t ty) (ife op false (avEq (.agg cs') (.agg cs))))=true→out8 n vX h' k=true→(∀S w0 r w xs,Rel S w0 fl r hX w→reals r [l,tr,.map h.next,.int .i64 65536]=some xs→Calls Tryz.prog 368 xs.toArray w fun e w'=>∃r' x,e = .returned x∧Ext r r'∧Rel S w0 fl r' h' w'∧real r' vX=some x)→
    Calls Tryz.prog 368 #[lv,tv,.map (some m),.int .i64 65536] W fun e w'=>∃x y z,e = .returned (.tuple #[x,y,z])∧R x y z w'∧∃fz,w'.heap[p.1]?=some (.cells cc ty fz):=by
   intro hX vX h' hRX hcX hoX hCX
   have hx1:=upd_ext hR (m,0)
   refine(hCX S w0 _ W [lv,tv,.map (some m),.int .i64 65536] hRX (reals_cons.2 ⟨_,_,real_mono hx1 _ _ hlv,reals_cons.2 ⟨_,_,real_mono hx1 _ _ htv,reals_cons.2 ⟨_,_,by simp only[real,upd_same,Option.map_some],reals_cons.2 ⟨_,_,rfl,reals_nil,rfl⟩,rfl⟩,rfl⟩,rfl⟩)).mono ?_
   rintro e w' ⟨r',x,rfl,hx,hR',hxv⟩
   obtain⟨x1,y1,z1,env',rfl,hk',hF⟩:=out8_ok hoX
   simp only[real,Option.map_eq_some_iff] at hxv
   obtain⟨us',hus',rfl⟩:=hxv
   obtain⟨X,t1,hX1,ht1,rfl⟩:=reals_cons.1 hus'
   obtain⟨Y,t2,hY1,ht2,rfl⟩:=reals_cons.1 ht1
   obtain⟨Z,hZ1,rfl⟩:=reals1 ht2
   exact⟨X,Y,Z,rfl,⟨h',env',r',_,_,_,hk',hx1.trans hx,hR',hX1,hY1,hZ1,fun f a b c=>hF r' f X Y Z hX1 hY1 hZ1 a b c⟩,same (hx1.trans hx) hR' hcX⟩
  have hx1:=upd_ext hR (m,0)
  have sNr : ∀r',real r' (.str sN)=some (.string bN):=fun r'=>by kernel_rfl
  have sVr : ∀r',real r' (.str sV)=some (.string bV):=fun r'=>by kernel_rfl
  have ssr : ∀r',real r' (.str s)=some (.string (B (textOf s))):=fun r'=>str_real hbs
  rcases hes with rfl|rfl
  ·exact fin (R0.adopt (b:= .mp [.str sN,.str sV] [nm,.str s] [0,1] 2) (p:=(m,0)) g1 im (.inr (by show w0.heap.size≤m; omega)) ⟨_,2,hbm,reals_cons.2 ⟨_,_,sNr _,reals_cons.2 ⟨_,_,sVr _,reals_nil,rfl⟩,rfl⟩,reals_cons.2 ⟨_,_,real_mono hx1 _ _ hnv,reals_cons.2 ⟨_,_,ssr _,reals_nil,rfl⟩,rfl⟩,by simp[eN,eV],by simp[eN,eV],rfl,rfl⟩) cA kA CA
  ·exact fin (R0.adopt (b:= .mp [.str sV,.str sN] [.str s,nm] [0,1] 2) (p:=(m,0)) g1 im (.inr (by show w0.heap.size≤m; omega)) ⟨_,2,hbm,reals_cons.2 ⟨_,_,sVr _,reals_cons.2 ⟨_,_,sNr _,reals_nil,rfl⟩,rfl⟩,reals_cons.2 ⟨_,_,ssr _,reals_cons.2 ⟨_,_,real_mono hx1 _ _ hnv,reals_nil,rfl⟩,rfl⟩,by simp[eN,eV],by simp[eN,eV],rfl,rfl⟩) cB kB CB
noncomputable def drXA(callF:Nat→CallF)(n:Nat)(call:CallF):DrawF:=fun ops env h k=>ask (Nat.beq n 47) (getV 7 env fun l=>getV 1 env fun tr=>getV 2 env fun b=>qPtr b fun i o=>ask (Nat.beq o 0) (cellsK h i fun ty op _ cs=>ife op false (pin8 cs fun nm ver=>
 callF h.next 369 [.agg ver] h (fun v _=>qStr v fun s=>newH h (.mp [.str sN,.str sV] [nm,.str s] [0,1] 2) fun m hA=>run8 n call l tr i ty cs m hA k) (fun _ _=>false))))
theorem drXA_ex{fl n:Nat}{P:Program}{G:Array Oper→Prop}{callF:Nat→CallF}{call:CallF}(hF : ∀fl,CallOk P fl (callF fl))(hc:CallOk P fl call):DrawEx G (drXA callF n call):=by
 intro ops env h k hG hk
 obtain⟨hn,hk⟩:=ask_ok hk
 obtain⟨l,hl,hk⟩:=getV_ok hk
 obtain⟨tr,htr,hk⟩:=getV_ok hk
 obtain⟨b,hb,hk⟩:=getV_ok hk
 obtain⟨i,o,rfl,hk1⟩:=qPtr_ok (x:=b) hk
 clear hk
 obtain⟨ho,hk⟩:=ask_ok hk1
 obtain⟨ty,op,ro,cs,hbk,hk⟩:=cellsK_ok hk
 rcases ife_ok hk with ⟨_,hk⟩|⟨hop,hk⟩
 ·cases hk
 obtain⟨nm,a,b,c,d,t,hcs,hk⟩:=pin8_ok hk
 have hF1:=hF _ _ _ _ _ _ hk
 obtain⟨v,h1,hk3,hT⟩:=hF1.resolve_right (fun⟨_,_,hk,_⟩=>by cases hk)
 obtain⟨s,rfl,hk2⟩:=qStr_ok (x:=v) hk3
 clear hk
 obtain⟨g1,hk⟩:=newH_ok hk2
 rcases hc _ _ _ _ _ hk with ⟨v,h',hk,hT⟩|⟨_,_,hk,_⟩
 ·obtain⟨q1,q2⟩:=ask_ok hk
  obtain⟨x,y,z,e,_,hk,_⟩:=out8_ok q2
  exact⟨_,_,_,hk⟩
 ·cases hk
end Go.Proofs.YtbhbdeelpopgoaaGreatDoor.E

set_option linter.constructorNameAsVariable false
set_option linter.unusedVariables false
namespace Go.Proofs.YtbhbdeelpopgoaaGreatDoor.E
open Go Go.RowKit H
attribute [local irreducible] H.CL H.RW H.CW H.Yd H.thenK H.blockQ Go.Calls
noncomputable def sumH(t1 t2:TypeId)(n:Nat)(s:List Nat):Hp:=((⟨102,.e⟩:Hp).put 101 (some (.cells t2 true true (ints s)))).put 100 (some (.cells t1 false true [.slx 101 0 n 1]))
theorem sumH_at{t1 t2:TypeId}{n:Nat}{s:List Nat}{i:Nat}(hi:i < LIM):(sumH t1 t2 n s).at i=if 100=i then some (.cells t1 false true [.slx 101 0 n 1]) else if 101=i then some (.cells t2 true true (ints s)) else none:=by
 unfold sumH
 rw[Hp.at_put (by decide) hi,Hp.at_put (by decide) hi]
 simp only[Hp.at,Tr.get_e]
def sumR(p q:Nat×Nat):Ren:=⟨fun i=>if i=100 then some p else if i=101 then some q else none,fun i=>i < 100,sg0⟩
def SumOk(P:Program)(f:FuncId)(t1 t2:TypeId)(s d:List Nat):Prop:=∀w r,Rel (fun _=>False) w 102 r (sumH t1 t2 s.length s) w→∀xs,reals r [.sl 100 0 1 1]=some xs→Calls P f xs.toArray w fun e w'=>K0 w w'∧e = .returned (.agg (bv (textOf d)).toArray)
noncomputable def sumLook(s:List Nat)(T:List (List Nat×List Nat))(k:List Nat→Bool):Bool:=List.rec (motive:=fun _=>Bool) false (fun x _ ih=>ife (sEq x.1 s) (k x.2) ih) T
theorem sumLook_ok{s:List Nat}{k:List Nat→Bool}: ∀{T:List (List Nat×List Nat)},sumLook s T k=true→∃d,(s,d)∈T∧k d=true
 | [],h=>by cases h
 | x::T,h=>by
  rcases ife_ok h with ⟨hb,h1⟩|⟨_,h1⟩
  ·have hb:=sEq_ok hb
   exact⟨x.2,by rw[←hb]; exact List.mem_cons_self,h1⟩
  ·obtain⟨d,hd,h1⟩:=sumLook_ok (T:=T) h1
   exact⟨d,List.mem_cons_of_mem _ hd,h1⟩
noncomputable def sum1(t1 t2:TypeId)(T:List (List Nat×List Nat))(v:AV)(h:Hp)(k:AV→Bool):Bool:=match v with
 | .sl i 0 1 1=>cellsK h i fun t op ro cs=>match cs with
  | [.slx j 0 n 1]=>ask (Nat.beq t t1) (ife op false (ife (Nat.beq i j) false (cellsK h j fun t' op' ro' cs=>ask (Nat.beq t' t2) (intsK cs fun s=>lenK s fun m=>ask (Nat.beq n m) (sumLook s T fun d=>k (.agg (ints d)))))))
  | _=>false
 | _=>false
noncomputable def sumP(t1 t2:TypeId)(T:List (List Nat×List Nat))(vs:List AV)(h:Hp)(k:AV→Bool):Bool:=one1 vs fun v=>sum1 t1 t2 T v h k
theorem sumP_ok{P:Program}{fl:Nat}{f:FuncId}{t1 t2:TypeId}{T:List (List Nat×List Nat)}(hT : ∀x∈T,Bytes x.2∧SumOk P f t1 t2 x.1 x.2):Pr1 P fl f fun _ vs h kr _=>sumP t1 t2 T vs h fun v=>kr v h:=by
 refine Pr1.val fun vs h k hk=>?_
 obtain⟨v,rfl,hk1⟩:=one1_ok hk
 clear hk
 replace hk:sum1 t1 t2 T v h k=true:=hk1
 clear hk1
 unfold sum1 at hk
 split at hk
 ·rename_i i
  obtain⟨t,op,ro,cs,hb,hk⟩:=cellsK_ok hk
  split at hk
  ·rename_i j n
   obtain⟨ht,hk⟩:=ask_ok hk
   have ht:=Nat.eq_of_beq_eq_true ht
   rw[ht] at hb
   rcases ife_ok hk with ⟨_,hk⟩|⟨hop,hk⟩
   ·cases hk
   rcases ife_ok hk with ⟨_,hk⟩|⟨hij,hk⟩
   ·cases hk
   obtain⟨t',op',ro',cs,hb',hk⟩:=cellsK_ok hk
   obtain⟨ht',hk⟩:=ask_ok hk
   have ht':=Nat.eq_of_beq_eq_true ht'
   rw[ht'] at hb'
   obtain⟨s,rfl,hs,hk⟩:=intsK_ok hk
   replace hk:lenK s (fun m=>ask (Nat.beq n m) (sumLook s T fun d=>k (.agg (ints d))))=true:=hk
   rw[lenK_eq] at hk
   obtain⟨hn,hk⟩:=ask_ok hk
   have hn:=Nat.eq_of_beq_eq_true hn
   rw[hn] at hb
   obtain⟨d,hd,hk⟩:=sumLook_ok hk
   obtain⟨hdb,hC⟩:=hT _ hd
   refine⟨_,hk,fun S' w0 r w xs hR hxs=>?_⟩
   obtain⟨x,hx,rfl⟩:=reals1 hxs
   obtain⟨p,hp,rfl⟩:=real_sl hx
   obtain⟨c,fz,us,e1,e2,e3,e4,e5,e6,e7⟩:=hR.at hp hb
   obtain⟨u,hu,rfl⟩:=reals1 e3
   obtain⟨q,hq,hz,ho,hm,rfl⟩:=real_slx hu
   obtain⟨c',fz',us',g1,g2,g3,g4,g5,g6,g7⟩:=hR.at hq hb'
   have hpq:p.1≠q.1:=fun e=>by
    have:=hR.inj i j _ _ p q (hR.lt hp) (hR.lt hq) hb hb' hp hq e
    subst this
    simp at hij
   have r100:sumR p q 100=some p:=rfl
   have r101:sumR p q 101=some q:=rfl
   have hC':Rel (fun _=>False) w 102 (sumR p q) (sumH t1 t2 s.length s) w:=by
    refine⟨fun a b ha hab=>?_,fun a b x y x' y' ha hb hx hy hx' hy' e=>?_,fun a ha=>?_,(show 102≤LIM by decide),fun a x ha hx=>?_,fun a x ha hx=>?_,fun a x hx=>?_,Kept.refl _ _,⟨Nat.le_refl _,(show GLB≤102 by decide)⟩,fun a ha=>?_,fun a ha=>?_,fun a ha hl=>?_⟩
    ·have ha:a < 102:=ha
     rw[sumH_at (Nat.lt_trans ha (by decide))] at hab
     by_cases q1:100=a
     ·subst q1
      rw[if_pos rfl] at hab; cases hab
      refine⟨p,rfl,c,fz,_,e1,e2,reals_cons.2 ⟨_,_,?_,reals_nil,rfl⟩,e4,e5,(fun _=>e6 (by simpa using hop)),(fun z=>by cases z)⟩
      simp only[real,r101,Option.bind_some]
      rw[if_pos ⟨hz,ho,hm⟩]
     ·rw[if_neg q1] at hab
      by_cases q2:101=a
      ·subst q2
       rw[if_pos rfl] at hab; cases hab
       refine⟨q,rfl,c',fz',us',g1,g2,?_,g4,g5,(fun z=>by cases z),(fun z=>by cases z)⟩
       rw[reals_ints hs g3]
       exact ints_real hs
      ·rw[if_neg q2] at hab; cases hab
    ·have ha:a < 102:=ha
     have hb:b < 102:=hb
     have k1:a=100∧p=x'∨a=101∧q=x':=by
      replace hx':(if a=100 then some p else if a=101 then some q else none)=some x':=hx'
      split at hx'
      ·exact .inl ⟨by assumption,by cases hx'; rfl⟩
      ·split at hx'
       ·exact .inr ⟨by assumption,by cases hx'; rfl⟩
       ·cases hx'
     have k2:b=100∧p=y'∨b=101∧q=y':=by
      replace hy':(if b=100 then some p else if b=101 then some q else none)=some y':=hy'
      split at hy'
      ·exact .inl ⟨by assumption,by cases hy'; rfl⟩
      ·split at hy'
       ·exact .inr ⟨by assumption,by cases hy'; rfl⟩
       ·cases hy'
     rcases k1 with ⟨rfl,rfl⟩|⟨rfl,rfl⟩ <;> rcases k2 with ⟨rfl,rfl⟩|⟨rfl,rfl⟩
     ·rfl
     ·exact absurd e hpq
     ·exact absurd e.symm hpq
     ·rfl
    ·have ha:102≤a:=ha
     show(if a=100 then some p else if a=101 then some q else none)=none
     rw[if_neg (by omega),if_neg (by omega)]
    ·have ha:a < 100:=ha
     replace hx:(if a=100 then some p else if a=101 then some q else none)=some x:=hx
     rw[if_neg (by omega),if_neg (by omega)] at hx; cases hx
    ·replace hx:(if a=100 then some p else if a=101 then some q else none)=some x:=hx
     rw[if_neg (by omega),if_neg (by omega)] at hx; cases hx
    ·replace hx:(if a=100 then some p else if a=101 then some q else none)=some x:=hx
     split at hx
     ·cases hx; exact hR.dom _ _ hp
     ·split at hx
      ·cases hx; exact hR.dom _ _ hq
      ·cases hx
    ·have ha:a < 100:=ha
     refine⟨?_,Nat.lt_trans ha (show 100 < 102 by decide)⟩
     show(if a=100 then some p else if a=101 then some q else none)=none
     rw[if_neg (by omega),if_neg (by omega)]
    ·have ha:a < 102:=ha
     rcases Nat.lt_or_ge a 100 with z|z
     ·exact .inl z
     ·rcases Nat.eq_or_lt_of_le z with rfl|z
      ·exact .inr ⟨p,rfl⟩
      ·obtain rfl:a=101:=by omega
       exact .inr ⟨q,rfl⟩
    ·have ha:102≤a:=ha
     rw[sumH_at hl,if_neg (by omega),if_neg (by omega)]
   refine(hC w _ hC' [.slice (some ⟨p.1,0,none⟩) 1 1] (reals_cons.2 ⟨_,_,by simp[real,r100],reals_nil,rfl⟩)).mono ?_
   rintro e w' ⟨hk',rfl⟩
   refine⟨_,rfl,hk',?_⟩
   simp only[real,ints_real hdb,Option.map_some]
  ·cases hk
 ·cases hk
noncomputable def sumK(call:CallF)(f:FuncId)(t1 t2:TypeId)(s d:List Nat)(b:Bool):Bool:=lenK s fun n=>call f [.sl 100 0 1 1] (sumH t1 t2 n s) (fun v _=>ask (avEq v (.agg (ints d))) b) (fun _ _=>false)
theorem sumK_ok{P:Program}{call:CallF}(hc:CallOk P 102 call){f:FuncId}{t1 t2:TypeId}{s d:List Nat}(hd:Bytes d)(hk:sumK call f t1 t2 s d true=true):SumOk P f t1 t2 s d:=by
 replace hk:lenK s (fun n=>call f [.sl 100 0 1 1] (sumH t1 t2 n s) (fun v _=>ask (avEq v (.agg (ints d))) true) (fun _ _=>false))=true:=hk
 rw[lenK_eq] at hk
 rcases hc _ _ _ _ _ hk with ⟨v,h',hv,hC⟩|⟨v,h',hv,_⟩
 ·have:=avEq_ok _ _ (ask_ok hv).1
  subst this
  intro w r hR xs hxs
  refine(hC _ w r w xs hR hxs).mono ?_
  rintro e w' ⟨r',x,rfl,hx,hR',hv⟩
  refine⟨hR'.kept,?_⟩
  simp only[real,ints_real hd,Option.map_some,Option.some.injEq] at hv
  rw[←hv]
 ·cases hv
end Go.Proofs.YtbhbdeelpopgoaaGreatDoor.E

set_option linter.constructorNameAsVariable false
set_option linter.unusedVariables false
namespace Go.Proofs.YtbhbdeelpopgoaaGreatDoor.E
open Go Go.RowKit H
noncomputable def sh0:List Nat×List Nat:=([80,65,75,49,1,0,3,108,105,98,0,0,5,108,105,98,47,97,0,0,0,0,0,0,0,7,97,32,49,46,48,46,48,0,0,8,98,117,105,108,100,46,104,115,0,0,0,0,0,0,0,33,119,114,105,116,101,32,111,117,116,32,34,98,117,105,108,116,32,36,110,97,109,101,32,36,118,101,114,115,105,111,110,34,10,255],[52,223,109,216,13,133,30,174,246,126,9,94,225,224,212,10,103,184,63,145,230,49,239,103,196,4,160,30,90,42,147,34])
noncomputable def sh1:List Nat×List Nat:=([80,65,75,49,1,0,3,108,105,98,0,0,5,108,105,98,47,98,0,0,0,0,0,0,0,7,98,32,49,46,48,46,48,255],[45,69,195,32,250,202,190,113,182,45,253,134,227,194,138,223,105,108,11,193,138,36,111,167,49,211,170,40,124,185,48,232])
noncomputable def sh2:List Nat×List Nat:=([80,65,75,49,1,0,3,108,105,98,0,0,5,108,105,98,47,98,0,0,0,0,0,0,0,7,98,32,49,46,49,46,48,255],[74,69,3,193,150,245,131,75,223,18,51,74,73,12,51,250,188,100,116,199,219,79,101,254,61,212,73,239,230,166,64,154])
noncomputable def sh3:List Nat×List Nat:=([80,65,75,49,1,0,3,108,105,98,0,0,5,108,105,98,47,98,0,0,0,0,0,0,0,7,98,32,50,46,48,46,48,255],[23,39,135,40,177,64,201,179,105,145,163,46,18,207,249,213,65,234,164,105,6,212,163,23,116,242,141,231,169,99,80,188])
noncomputable def sh4:List Nat×List Nat:=([80,65,75,49,1,0,3,108,105,98,0,0,5,108,105,98,47,98,0,0,0,0,0,0,0,7,98,32,48,46,51,46,48,255],[107,122,186,212,57,128,75,252,186,183,196,167,218,239,198,223,46,160,96,155,73,167,166,227,181,17,20,99,249,189,21,125])
noncomputable def sh5:List Nat×List Nat:=([80,65,75,49,1,0,3,108,105,98,0,0,5,108,105,98,47,98,0,0,0,0,0,0,0,11,98,32,49,46,48,46,48,45,120,46,49,255],[49,66,169,81,84,230,184,11,73,142,240,4,159,195,104,254,154,58,113,246,41,15,206,54,255,179,118,89,140,77,61,99])
noncomputable def sh6:List Nat×List Nat:=([80,65,75,49,1,0,3,108,105,98,0,0,5,108,105,98,47,98,0,0,0,0,0,0,0,7,98,32,49,46,50,46,51,255],[150,119,148,109,10,244,108,92,125,6,47,123,203,97,204,183,21,123,194,123,252,49,219,251,11,143,183,246,33,242,88,55])
noncomputable def shaT:List (List Nat×List Nat):=[sh0,sh1,sh2,sh3,sh4,sh5,sh6]
noncomputable abbrev P0:Program:=Tryz.prog
abbrev FU:Nat:=10000000
noncomputable def dr0(fl n:Nat)(call:CallF):DrawF:=drawsK P0 fl n call
theorem mo0:P0.follows .mixedOrders=true:=by kernel_rfl
theorem dr0_ok(fl:Nat): ∀n call,CallOk P0 fl call→DrawOk P0 fl n RG (dr0 fl n call):=fun n call hc=>drawsK_ok mo0 n call hc
theorem regs0:AllRegs P0 RG:=allRegs (by kernel_rfl)
noncomputable def callS(d:Nat):CallF:=callK P0 102 FU (tab []) (dr0 102) d
theorem callS_ok(d:Nat):CallOk P0 102 (callS d):=callK_ok (tab_ok (fun x hx=>by cases hx)) (dr0_ok 102) regs0 d
noncomputable def sumB(f:FuncId)(x:List Nat×List Nat)(b:Bool):Bool:=sumK (callS 20) f 22 5 x.1 x.2 b
theorem sumB_ok{f:FuncId}{x:List Nat×List Nat}(hb:(x.2.all fun b=>Nat.blt b 256)=true)(hs:sumB f x true=true):Bytes x.2∧SumOk P0 f 22 5 x.1 x.2:=⟨hb,sumK_ok (callS_ok 20) hb hs⟩
end Go.Proofs.YtbhbdeelpopgoaaGreatDoor.E

set_option linter.constructorNameAsVariable false
set_option linter.unusedVariables false
namespace Go.Proofs.YtbhbdeelpopgoaaGreatDoor.E
open Go Go.RowKit H
noncomputable def memL(l:List Blk):Hp→Hp:=List.rec (motive:=fun _=>Hp→Hp) (fun h=>h) (fun x _ ih h=>ih (h.new x)) l
def renL:List (Nat×Nat)→Nat→Ren→Ren
 | [],_,r=>r
 | p::l,n,r=>renL l (n+1) (upd r n p)
def AtL(w:World):List Blk→List (Nat×Nat)→Nat→Ren→Prop
 | [],[],_,_=>True
 | b::l,p::ps,n,r=>(∀q∈ps,q.1≠p.1)∧BRel (upd r n p) p w b∧AtL w l ps (n+1) (upd r n p)
 | _,_,_,_=>False
section
variable {S : Nat → Prop} {w0 : World} {fl : Nat} {w : World}
theorem Rel.monoS{r:Ren}{h:Hp}(H:Rel (fun _=>False) w fl r h w):Rel S w fl r h w:=
 ⟨H.live,H.inj,H.fresh,H.lim,H.glob,fun i p hi hp=>(H.may i p hi hp).imp False.elim id,H.dom,Kept.refl _ _,H.base,H.hol,H.full,H.top⟩
theorem renL_sg: ∀{ps:List (Nat×Nat)} {n:Nat} {r:Ren},(renL ps n r).sg=r.sg
 | [],_,_=>rfl
 | _::ps,n,r=>renL_sg (ps:=ps)
theorem memL_rel: ∀{l:List Blk} {ps:List (Nat×Nat)} {r:Ren} {h:Hp},Rel S w0 fl r h w→h.next+l.length≤LIM→(∀p∈ps,S p.1∨w0.heap.size≤p.1)→(∀i q p,r i=some q→p∈ps→q.1≠p.1)→AtL w l ps h.next r→Rel S w0 fl (renL ps h.next r) (memL l h) w∧(memL l h).next=h.next+l.length
 | [],[],r,h,H,_,_,_,_=>⟨H,rfl⟩
 | [],_::_,_,_,_,_,_,_,a=>a.elim
 | _::_,[],_,_,_,_,_,_,a=>a.elim
 | b::l,p::ps,r,h,H,hl,hS,hr,a=>by
  obtain⟨a1,a2,a3⟩:=a
  simp only[List.length_cons] at hl
  have H1:=H.adopt (b:=b) (p:=p) (by omega) (fun i q hq=>hr i q p hq List.mem_cons_self) (hS p List.mem_cons_self) a2
  have hr' : ∀i q p',upd r h.next p i=some q→p'∈ps→q.1≠p'.1:=fun i q p' hq hp'=>by
   rw[upd_eq] at hq
   split at hq
   ·cases hq
    exact fun c=>a1 p' hp' c.symm
   ·exact hr i q p' hq (List.mem_cons_of_mem _ hp')
  obtain⟨H2,e⟩:=memL_rel (l:=l) (ps:=ps) H1 (by show h.next+1+l.length≤LIM; omega) (fun q hq=>hS q (List.mem_cons_of_mem _ hq)) hr' a3
  refine⟨H2,?_⟩
  show(memL l (h.new _)).next=h.next+(l.length+1)
  have e:(memL l (h.new b)).next=h.next+1+l.length:=e
  omega
end
noncomputable def hE:Hp:=⟨100,.e⟩
def rE(sg:Sgs):Ren:=⟨fun _=>none,fun i=>i < 100,sg⟩
theorem hE_at{i:Nat}:hE.at i=none:=by
 simp only[Hp.at,hE,Tr.get_e]
theorem relE(sg:Sgs)(w:World):Rel (fun _=>False) w 100 (rE sg) hE w:=by
 have hn:hE.next=100:=rfl
 refine⟨fun i b hi hb=>?_,fun i j b c p q hi hj hb hc hp hq e=>?_,fun i hi=>rfl,by rw[hn]; decide,fun i p _ hp=>(by cases hp),fun i p hi hp=>(by cases hp),fun i p hp=>(by cases hp),Kept.refl _ _,by rw[hn]; exact⟨Nat.le_refl _,Nat.le_refl _⟩,fun i hi=>⟨rfl,by rw[hn]; exact hi⟩,fun i hi=> .inl (by rw[hn] at hi; exact hi),fun i hi hL=>hE_at⟩
 ·rw[hE_at] at hb; cases hb
 ·cases hp
theorem callL{T:List (FuncId×Prim)}{l:List Blk}{d:Nat}{f:FuncId}{vs:List AV}{v:AV}(hT:PrimOk P0 (100+l.length) (tab T))(hv:flatA v=true)
  (hk:callK P0 (100+l.length) FU (tab T) (dr0 (100+l.length)) d f vs (memL l hE) (fun u _=>avEq v u) (fun _ _=>false)=true) {w:World} {sg:Sgs} {ps:List (Nat×Nat)} (hl:l.length≤1000) (ha:AtL w l ps 100 (rE sg)) {xs:List Value} (hxs:reals (renL ps 100 (rE sg)) vs=some xs) :
  Calls P0 f xs.toArray w fun e w'=>∃x,e = .returned x∧K0 w w'∧∀r,real r v=some x:=by
 have h1:=(relE sg w).monoS (S:=fun b=>∃p∈ps,p.1=b)
 have hn:hE.next=100:=rfl
 obtain⟨h2,e⟩:=memL_rel (l:=l) (ps:=ps) h1 (by rw[hn]; exact Nat.le_trans (Nat.add_le_add_left hl 100) (by decide)) (fun p hp=> .inl ⟨p,hp,rfl⟩) (fun i q p hq hp c=>by cases hq) ha
 have h3:=h2.floor
 rw[e,hn] at h3
 rcases callK_ok hT (dr0_ok (100+l.length)) regs0 d _ _ _ _ _ hk with ⟨u,h',hu,hC⟩|⟨_,_,hk,_⟩
 ·have:=avEq_ok _ _ hu
  subst this
  refine(hC _ w _ w _ h3 hxs).mono ?_
  rintro e w' ⟨r',x,rfl,_,hR',hx⟩
  exact⟨x,rfl,hR'.kept,fun r=>flat_real _ _ hv hx⟩
 ·cases hk
end Go.Proofs.YtbhbdeelpopgoaaGreatDoor.E

set_option linter.constructorNameAsVariable false
set_option linter.unusedVariables false
namespace Go.Proofs.YtbhbdeelpopgoaaGreatDoor.E
open Go Go.RowKit H
def rk:Nat→Nat
 | 0=>2|1=>3|2=>5|3=>0|4=>1|_=>4
def cmpZ(s t:Nat):Int:=if rk s < rk t then -1 else if rk s=rk t then 0 else 1
noncomputable def pKc:List AV:=[.str [120],.str [49]]
noncomputable def pK:Blk:= .cells 9 true true pKc
def PreAt(w:World)(q:Value):Prop:=∃g c fz,q = .slice (some ⟨g,0,none⟩) 2 c.size∧w.heap[g]?=some (.cells c 9 fz)∧2≤c.size∧c.size≤maxLen∧c.toList.take 2=[.string (B (textOf [120])),.string (B (textOf [49]))]
theorem PreAt.keep{w w':World}{q:Value}(h:PreAt w q)(k:K0 w w'):PreAt w' q:=by
 obtain⟨g,c,fz,e,h1,h2⟩:=h
 exact⟨g,c,fz,e,k.at0 h1,h2⟩
def Vr(w:World)(q:Value)(s:Nat):Prop:=s=4→PreAt w q
theorem Vr.keep{w w':World}{q:Value}{s:Nat}(h:Vr w q s)(k:K0 w w'):Vr w' q s:=fun e=>(h e).keep k
theorem pre_brel{r:Ren}{w:World}{g:Nat}{c:Array Value}{fz:Nat×Nat}(h1:w.heap[g]?=some (.cells c 9 fz))(h2:2≤c.size)(h3:c.toList.take 2=[.string (B (textOf [120])),.string (B (textOf [49]))]):BRel r (g,c.size) w pK:=
 ⟨c,fz,_,h1,rfl,reals_cons.2 ⟨_,_,str_real (by decide),reals_cons.2 ⟨_,_,str_real (by decide),reals_nil,rfl⟩,rfl⟩,h3.symm,h2,(fun z=>by cases z),fun z=>by cases z⟩
theorem slx2{r:Ren}{i g n:Nat}(hr:r i=some (g,n))(h2:2≤n)(h3:n≤maxLen):real r (.slx i 0 2 1)=some (.slice (some ⟨g,0,none⟩) 2 n):=by
 simp only[real,hr,Option.bind_some]
 rw[if_pos ⟨by decide,by omega,by simpa using h3⟩]
 simp
noncomputable def cmpR(f:FuncId)(l:List Blk)(a b:List AV)(z:Int):Bool:=callK P0 (100+l.length) FU (tab []) (dr0 (100+l.length)) 50 f [.agg a,.agg b] (memL l hE) (fun u _=>avEq (.int .i64 z) u) (fun _ _=>false)
noncomputable def p0A:AV:= .slx 100 0 2 1
noncomputable def p1A:AV:= .slx 101 0 2 1
noncomputable def vcmpB(f:FuncId)(s t:Nat):Bool:=ifeV (Nat.beq s 4) (ifeV (Nat.beq t 4) (ifeV (cmpR f [pK,pK] (vL p0A s) (vL p1A t) (cmpZ s t)) (cmpR f [pK] (vL p0A s) (vL p0A t) (cmpZ s t)) false) (cmpR f [pK] (vL p0A s) (vL .nils t) (cmpZ s t))) (ifeV (Nat.beq t 4) (cmpR f [pK] (vL .nils s) (vL p0A t) (cmpZ s t)) (cmpR f [] (vL .nils s) (vL .nils t) (cmpZ s t)))
def CmpOk(f:FuncId):Prop:=∀s t,s < 6→t < 6→vcmpB f s t=true
theorem cmpOk_of{f:FuncId}(h:((List.range 36).all fun k=>vcmpB f (k / 6) (k % 6))=true):CmpOk f:=fun s t hs ht=>by
 have:=List.all_eq_true.1 h (6 * s+t) (List.mem_range.2 (by omega))
 have e1:(6 * s+t) / 6=s:=by omega
 have e2:(6 * s+t) % 6=t:=by omega
 rwa [e1,e2] at this
theorem no_tab(fl:Nat):PrimOk P0 fl (tab []):=tab_ok fun x hx=>by cases hx
theorem cmpCall{f:FuncId}(h:CmpOk f){w:World}{s t:Nat}(hs:s < 6)(ht:t < 6){p q:Value}(hp:Vr w p s)(hq:Vr w q t):Calls P0 f #[.agg (vC p s).toArray,.agg (vC q t).toArray] w fun e w'=>e = .returned (.int .i64 (cmpZ s t))∧K0 w w':=by
 have hb:=h s t hs ht
 unfold vcmpB at hb
 have fin : ∀{l:List Blk} {a b:List AV} {ps:List (Nat×Nat)},l.length≤1000→cmpR f l a b (cmpZ s t)=true→AtL w l ps 100 (rE sg0)→real (renL ps 100 (rE sg0)) (.agg a)=some (.agg (vC p s).toArray)→real (renL ps 100 (rE sg0)) (.agg b)=some (.agg (vC q t).toArray)→Calls P0 f #[.agg (vC p s).toArray,.agg (vC q t).toArray] w fun e w'=>e = .returned (.int .i64 (cmpZ s t))∧K0 w w':=by
  intro l a b ps hl hk ha h1 h2
  refine(callL (no_tab _) rfl hk hl ha (xs:=[_,_]) (reals_cons.2 ⟨_,_,h1,reals_cons.2 ⟨_,_,h2,reals_nil,rfl⟩,rfl⟩)).mono ?_
  rintro e w' ⟨x,rfl,k,hx⟩
  have:=real_int (hx (rE sg0))
  subst this
  exact⟨rfl,k⟩
 by_cases es:s=4
 ·obtain⟨g,c,fz,rfl,h1,h2,h3,h4⟩:=hp es
  have e1:Nat.beq s 4=true:=by rw[es]; rfl
  rw[e1] at hb
  by_cases et:t=4
  ·obtain⟨g',c',fz',rfl,h1',h2',h3',h4'⟩:=hq et
   have e2:Nat.beq t 4=true:=by rw[et]; rfl
   rw[e2] at hb
   obtain⟨b1,b2⟩:=and_ok hb
   by_cases eg:g=g'
   ·subst eg
    rw[h1] at h1'; cases h1'
    exact fin (ps:=[(g,c.size)]) (by decide) b2 ⟨(fun q hq=>by cases hq),pre_brel h1 h2 h4,trivial⟩ (vL_real fun _=>slx2 rfl h2 h3) (vL_real fun _=>slx2 rfl h2 h3)
   ·exact fin (ps:=[(g,c.size),(g',c'.size)]) (by decide) b1 ⟨(fun q hq=>by rw[List.mem_singleton.1 hq]; exact fun z=>eg z.symm),pre_brel h1 h2 h4,(fun q hq=>by cases hq),pre_brel h1' h2' h4',trivial⟩ (vL_real fun _=>slx2 rfl h2 h3) (vL_real fun _=>slx2 rfl h2' h3')
  ·rw[beq_ne et] at hb
   exact fin (ps:=[(g,c.size)]) (by decide) hb ⟨(fun q hq=>by cases hq),pre_brel h1 h2 h4,trivial⟩ (vL_real fun _=>slx2 rfl h2 h3) (vL_real fun z=>absurd z et)
 ·rw[beq_ne es] at hb
  by_cases et:t=4
  ·obtain⟨g',c',fz',rfl,h1',h2',h3',h4'⟩:=hq et
   have e2:Nat.beq t 4=true:=by rw[et]; rfl
   rw[e2] at hb
   exact fin (ps:=[(g',c'.size)]) (by decide) hb ⟨(fun q hq=>by cases hq),pre_brel h1' h2' h4',trivial⟩ (vL_real fun z=>absurd z es) (vL_real fun _=>slx2 rfl h2' h3')
  ·rw[beq_ne et] at hb
   exact fin (ps:=[]) (by decide) hb trivial (vL_real fun z=>absurd z es) (vL_real fun z=>absurd z et)
theorem cmp1:CmpOk 186:=cmpOk_of (by kernel_rfl)
theorem cmp2:CmpOk 9:=cmpOk_of (by kernel_rfl)
end Go.Proofs.YtbhbdeelpopgoaaGreatDoor.E

set_option linter.constructorNameAsVariable false
set_option linter.unusedVariables false
namespace Go.Proofs.YtbhbdeelpopgoaaGreatDoor.E
open Go Go.RowKit H
section
variable {M : Option (Option Nat)} {P : Program} {ops : Array Oper} {Q : Post} {rest : List Oper} {f : Fr} {w : World} {d ty : Nat} {pos : String} {af : Array Edge}
theorem RW.elemG{t e t2 ty2 ty3 s:TypeId}{fi off ft:Nat}{pos2 pos3:String}{af2 af3:Array Edge}{d1 d2:Nat}{z zf:Value}{b sz szf bf:Nat}[ht:Und P t (.slice e)][Inf P e z sz b][hf:Fld P s fi off ft][hfi:Inf P ft zf szf bf][One P t2]
  {x y:Operand} {k:IntKind} {v u:Value} {i:Int} {n:Nat} {xs:List Value} (hx:f.ev x=some v) (hy:f.ev y=some (.int k i)) (hd:Nat.blt d f.n=true) (hd1:Nat.blt d1 f.n=true) (hd2:Nat.blt d2 f.n=true) (hzf:Nat.beq szf 0=false)
  (hs:Sl w sz v n xs) (h0:0≤i) (h1:i < n) (hu:xs[i.toNat * sz+off]?=some u)
  (kk : ∀p q,RW M P ops Q rest (((f.put d p).put d1 q).put d2 u) w):RW M P ops Q (op1 d (.indexAddr t x y) ty pos af::op1 d1 (.fieldAddr s (.tmp d) fi) ty2 pos2 af2::op1 d2 (.load t2 (.tmp d1)) ty3 pos3 af3::rest) f w:=by
 obtain⟨g,o,h2,h3⟩:=spot_ptr hs (by omega) (i.toNat * sz)
 refine RW.y (Y.idx hx hy hs h0 h1) hd ?_
 rw[h2]
 refine RW.y (Y.fieldAddr (show(f.put d (.pointer (some ⟨g,o,none⟩))).ev (.tmp d)=some (.pointer (some ⟨g,o,none⟩)) from by simp[H.Fr.ev,H.Fr.put,H.look]) hzf) hd1 ?_
 refine RW.y (Y.load1 (a:=⟨g,o+off,none⟩) (by simp[H.Fr.ev,H.Fr.put,H.look]) ?_) hd2 (kk _ _)
 rw[←h3 off]
 exact hs.cell hu
end
end Go.Proofs.YtbhbdeelpopgoaaGreatDoor.E

set_option linter.constructorNameAsVariable false
set_option linter.unusedVariables false
namespace Go.Proofs.YtbhbdeelpopgoaaGreatDoor.E
open Go Go.RowKit H
attribute [local irreducible] H.CL H.RW H.CW H.Yd H.thenK H.blockQ Go.Calls
theorem cmpZ_0: ∀s,s < 6→∀t,t < 6→(cmpZ s t=0↔s=t):=by decide
structure RwsAt (w:World) (q:Value) (L:List Nat) (v:Value):Prop where
 sl:Sl w 39 v L.length (L.flatMap (rowC q))
 pr:4∈L→PreAt w q
 lt : ∀s∈L,s < 6
 few:L.length≤6
theorem RwsAt.keep0{w w':World}{q:Value}{L:List Nat}{v:Value}(h:RwsAt w q L v)(k:K0 w w'):RwsAt w' q L v:=⟨h.sl.keep0 k,fun m=>(h.pr m).keep k,h.lt,h.few⟩
theorem ldU{w:World}{g j:Nat}{c:Array Value}{e:TypeId}{fz:Nat×Nat}{v:Value}(h:w.heap[g]?=some (.cells c e fz))(hx:c[j]?=some v):w.cell? ⟨g,j,none⟩=some v:=by rw[cell_row (off:=0) h]; simpa using hx
theorem elAll{α:Type}[Inhabited α]{w:World}{sz:Nat}{v:Value}{L:List α}{enc:α→List Value}(hs:Sl w sz v L.length (L.flatMap enc))(he : ∀x,(enc x).length=sz){i:Int}(h0:0≤i)(hi:i < L.length): ∀w',K0 w w'→∀j u,(enc (L.getD i.toNat default))[j]?=some u→w'.cell? ((Value.spot v (i.toNat * sz)).add j)=some u:=by
 obtain⟨n,rfl⟩ : ∃n:Nat,i=(n:Int):=⟨i.toNat,by omega⟩
 intro w' k j u hu
 rw[Int.toNat_natCast] at hu
 exact elCells (hs.keep0 k) he (show n < L.length by omega) j u hu
def HasV(w:World)(g:Nat)(q:Value)(s:Nat):Prop:=w.heap[g]?=some (.cells (vC q s).toArray 41 (0,0))∧Vr w q s
theorem atLam{w:World}{q p:Value}{s t gn gv:Nat}(hs:s < 6)(ht:t < 6)(hq:Vr w q s)(hn:w.heap[gn]?=some (.cells #[.string (B (textOf [98]))] 9 (0,0)))(hV:HasV w gv p t):Calls Tryz.prog 185 #[.agg (rowC q s).toArray,.pointer (some ⟨gn,0,none⟩),.pointer (some ⟨gv,0,none⟩)] w fun e w'=>K0 w w'∧e = .returned (.bool (decide (s=t))):=by
 obtain⟨hg,hp⟩:=hV
 refine H.enter Tryz.func185 Tryz.ntmps185 rfl rfl ?_; dsimp only[H.args]
 repeat' (first|(refine CL.seq ?_)|(refine CL.region ?_))
 refine RW.box rfl rfl (fun w1 hb1 hk1 hlt1=>?_)
 have hb1':w1.heap[w.heap.size]?=some (.cells (rowC q s).toArray 46 (0,0)):=hb1
 have hn1:=hk1.at0 hn
 have hg1:=hk1.at0 hg
 have c0:w1.cell? ⟨w.heap.size,0,none⟩=some (.string (B (textOf [98]))):=ldU hb1' (by simp[rowC])
 have c1 : ∀j u,(vC q s)[j]?=some u→w1.cell? ((⟨w.heap.size,1,none⟩:Addr).add j)=some u:=fun j u hu=>by
  rw[addr_add]
  refine ldU hb1' ?_
  have hj:j < 4:=(List.getElem?_eq_some_iff.1 hu).1
  rw[List.getElem?_toArray,rowC,Nat.add_comm,List.getElem?_cons_succ,List.getElem?_append_left hj]
  exact hu
 have hcmp:=cmpCall cmp1 hs ht (hq.keep hk1) (hp.keep hk1)
 repeat' (first|(refine CL.seq ?_)|(refine CL.region ?_)|(refine CL.ret ?_)|(refine Gt.nil ?_; refine RW.nilw [0,1,2,3,4] ?_; dsimp only[H.keep,H.look,H.Fr.put,Nat.beq])|(refine Gt.load ?_; (refine RW.y (Y.loadB rfl (by assumption) rfl) rfl ?_))|(refine Gt.guard ?_; first|(refine RW.part rfl rfl rfl (fun _=>?_) (fun _=>?_) <;> try (exfalso; omega))|(refine RW.on rfl rfl rfl ?_)|(refine RW.off1 rfl rfl rfl rfl rfl ?_))|(refine Gt.assign ?_; refine RW.y (Y.assign rfl) rfl ?_)|(refine Gt.fieldAddr ?_; refine RW.y (Y.fieldAddr rfl (by rfl)) rfl ?_)|(refine Gt.eql ?_; (refine RW.y (Y.eqs rfl rfl) rfl ?_))|(refine Gt.move ?_; refine RW.y (Y.move rfl) rfl ?_)|(refine Gt.pick ?_; (refine RW.y (Y.pickF rfl rfl) rfl ?_)))
 ·rename_i hnm
  refine RW.y (Y.loadN (cs:=vC q s) rfl rfl c1) rfl ?_
  refine RW.on rfl rfl rfl ?_
  refine RW.y (Y.loadBlock rfl hg1 rfl) rfl ?_
  refine RW.on rfl rfl rfl ?_
  refine RW.fn rfl rfl (hcmp.mono ?_)
  rintro e w2 ⟨rfl,hk2⟩
  repeat' (first|(refine CL.ret ?_)|(refine Gt.nil ?_; refine RW.nilw [0,1,2,3,4] ?_; dsimp only[H.keep,H.look,H.Fr.put,Nat.beq])|(refine Gt.guard ?_; (refine RW.on rfl rfl rfl ?_))|(refine Gt.assign ?_; refine RW.y (Y.assign rfl) rfl ?_)|(refine Gt.eql ?_; (refine RW.y (Y.eqi rfl rfl) rfl ?_))|(refine Gt.pick ?_; (refine RW.y (Y.pickT rfl rfl) rfl ?_)))
  exact FQ.one rfl rfl rfl ⟨hk1.trans0 hk2,by simp[cmpZ_0 s hs t ht]⟩
 ·rename_i hnm
  exact absurd rfl hnm
def plI(L:List Nat)(s:Nat):Int:=match standsAt L s with|some m=>Int.ofNat m|none=>-1
theorem idxRows{w:World}{q p v:Value}{L:List Nat}{t gn gv:Nat}(hv:RwsAt w q L v)(ht:t < 6)(hn:w.heap[gn]?=some (.cells #[.string (B (textOf [98]))] 9 (0,0)))(hV:HasV w gv p t):Calls Tryz.prog 184 #[v,.func (.func 185) #[] #[.pointer (some ⟨gn,0,none⟩),.pointer (some ⟨gv,0,none⟩)]] w fun e w'=>K0 w w'∧e = .returned (.int .i64 (plI L t)):=by
 refine H.enter Tryz.func184 Tryz.ntmps184 rfl rfl ?_; dsimp only[H.args]
 have hs:=hv.sl
 repeat' (first|(refine CL.seq ?_)|(refine CL.region ?_)|(refine CL.block ?_)|(refine Gt.nil ?_; refine RW.nilw [0,1,4,5,7,8,9,16] ?_; dsimp only[H.keep,H.look,H.Fr.put,Nat.beq])|(refine Gt.move ?_; refine RW.y (Y.move rfl) rfl ?_)|(refine Gt.assign ?_; refine RW.y (Y.assign rfl) rfl ?_)|(refine Gt.len ?_; (refine RW.y (Y.lenx rfl (by assumption)) rfl ?_)))
 refine CL.loopS [0,1,4,7,8] (fun k vals wr=>∃(i:Nat) (n:Int),vals=[v,.func (.func 185) #[] #[.pointer (some ⟨gn,0,none⟩),.pointer (some ⟨gv,0,none⟩)],.int .i64 n,.int .i64 (L.length:Int),.int .i64 (i:Int)]∧k=L.length - i∧i≤L.length∧(∀j,j < i→L[j]?≠some t)∧K0 w wr) L.length ⟨_,rfl,0,0,rfl,rfl,Nat.zero_le _,(fun j hj=>by omega),Kept.refl _ _⟩ ?_
 rintro k vals wr ⟨i,n,rfl,rfl,hi,hix,hkr⟩
 dsimp only[List.zip,List.zipWith]
 have hvr:=hv.keep0 hkr
 have hsr:=hvr.sl
 have hti:((i:Int)).toNat=i:=Int.toNat_natCast i
 have hfew:=hv.few
 rcases Nat.lt_or_ge i L.length with hlt|hge
 ·obtain⟨s,hsL⟩ : ∃s,L[i]?=some s:=⟨L[i],List.getElem?_eq_getElem hlt⟩
  have hmem:s∈L:=List.mem_of_getElem? hsL
  have hall:=elAll hsr (rowC_len q) (i:=(i:Int)) (by omega) (by omega)
  have hgd:L.getD ((i:Int)).toNat default=s:=by rw[hti,List.getD_eq_getElem?_getD,hsL]; rfl
  rw[hgd] at hall
  have hlam:=atLam (hv.lt s hmem) ht (fun e=>hvr.pr (e▸hmem)) (hkr.at0 hn) ⟨hkr.at0 hV.1,hV.2.keep hkr⟩
  repeat' (first|(refine CL.seq ?_)|(refine CL.region ?_)|(refine CL.skip ?_)|(refine CL.condP rfl (fun _=>?_) (fun _=>?_) <;> try (exfalso; omega))|(refine CL.block ?_)|(refine Gt.nil ?_; refine RW.nilw [0,1,4,5,7,8,9,16] ?_; dsimp only[H.keep,H.look,H.Fr.put,Nat.beq])|(refine Gt.move ?_; refine RW.y (Y.move rfl) rfl ?_)|(refine Gt.assign ?_; refine RW.y (Y.assign rfl) rfl ?_)|(refine Gt.lss ?_; refine RW.y (Y.lss rfl rfl) rfl ?_))
  refine RW.y (Y.idx rfl rfl hsr (by omega) (by omega)) rfl ?_
  refine RW.y (Y.loadN (cs:=rowC q s) rfl (rowC_len q s) (hall _ (Kept.refl _ _))) rfl ?_
  refine RW.fnv (cap:=[.pointer (some ⟨gn,0,none⟩),.pointer (some ⟨gv,0,none⟩)]) rfl rfl rfl (hlam.mono ?_)
  rintro e w' ⟨hk',rfl⟩
  by_cases hm:s=t
  ·rw[decide_eq_true hm]
   repeat' (first|(refine CL.seq ?_)|(refine CL.region ?_)|(refine CL.condT rfl ?_)|(refine CL.ret ?_)|(refine Rt.then ?_)|(refine Rt.block ?_)|(refine Gt.nil ?_; refine RW.nilw [0,1,4,5,7,8,9,16] ?_; dsimp only[H.keep,H.look,H.Fr.put,Nat.beq])|(refine Gt.move ?_; refine RW.y (Y.move rfl) rfl ?_)|(refine Gt.assign ?_; refine RW.y (Y.assign rfl) rfl ?_))
   exact FQ.one rfl rfl rfl ⟨hkr.trans0 hk',by rw[plI,standsAt_eq (hm▸hsL) hix]; rfl⟩
  ·rw[decide_eq_false hm]
   repeat' (first|(refine CL.region ?_)|(refine CL.skip ?_)|(refine CL.condF rfl ?_)|(refine CL.done ?_)|(refine Nm.block ?_)|(refine Nm.then ?_)|(refine Gt.nil ?_; refine RW.nilw [0,1,4,5,7,8,9,16] ?_; dsimp only[H.keep,H.look,H.Fr.put,Nat.beq])|(refine Gt.move ?_; refine RW.y (Y.move rfl) rfl ?_)|(refine Gt.add ?_; refine RW.y (Y.add64 rfl rfl (by omega) (by omega)) rfl ?_))
   refine⟨L.length - (i+1),_,rfl,rfl,rfl,by omega,i+1,n,rfl,rfl,by omega,fun j hj=>?_,hkr.trans0 hk'⟩
   rcases Nat.lt_or_ge j i with c|c
   ·exact hix j c
   ·obtain rfl:j=i:=by omega
    rw[hsL]
    exact fun e=>hm (Option.some.inj e)
 ·have hi:i=L.length:=by omega
  subst hi
  repeat' (first|(refine CL.seq ?_)|(refine CL.region ?_)|(refine CL.condP rfl (fun _=>?_) (fun _=>?_) <;> try (exfalso; omega))|(refine CL.exit ?_)|(refine Ex.then ?_)|(refine Ex.hit ?_)|(refine CL.ret ?_)|(refine Gt.nil ?_; refine RW.nilw [0,1,4,5,7,8,9,16] ?_; dsimp only[H.keep,H.look,H.Fr.put,Nat.beq])|(refine Gt.assign ?_; refine RW.y (Y.assign rfl) rfl ?_)|(refine Gt.lss ?_; refine RW.y (Y.lss rfl rfl) rfl ?_))
  refine FQ.one rfl rfl rfl ⟨hkr,?_⟩
  have:standsAt L t=none:=standsAt_none.2 fun m=>by
   obtain⟨j,hj⟩:=List.getElem?_of_mem m
   exact hix j (List.getElem?_eq_some_iff.1 hj).1 hj
  rw[plI,this]
theorem indexAt{w:World}{q p v:Value}{L:List Nat}{t:Nat}(hv:RwsAt w q L v)(ht:t < 6)(hp:Vr w p t):Calls Tryz.prog 122 #[v,.string (B (textOf [98])),.agg (vC p t).toArray] w fun e w'=>K0 w w'∧e = .returned (.int .i64 (plI L t)):=by
 refine H.enter Tryz.func122 Tryz.ntmps122 rfl rfl ?_; dsimp only[H.args]
 repeat' (first|(refine CL.seq ?_)|(refine CL.region ?_))
 refine RW.box rfl rfl (fun w1 hb1 hk1 hlt1=>?_)
 skip
 refine RW.box rfl rfl (fun w2 hb2 hk2 hlt2=>?_)
 have hK:=hk1.trans0 hk2
 repeat' (first|(refine CL.seq ?_)|(refine CL.region ?_)|(refine Gt.nil ?_; refine RW.nilw [0,1,2,4,5,6] ?_; dsimp only[H.keep,H.look,H.Fr.put,Nat.beq])|(refine RW.y (Y.makeFunc (xs:=[]) (ys:=[_,_]) rfl rfl) rfl ?_)|(refine Gt.assign ?_; refine RW.y (Y.assign rfl) rfl ?_)|(refine Gt.move ?_; refine RW.y (Y.move rfl) rfl ?_))
 refine RW.fn rfl rfl ((idxRows (hv.keep0 hK) ht (hk2.at0 hb1) ⟨hb2,hp.keep hK⟩).mono ?_)
 rintro e w3 ⟨hk3,rfl⟩
 repeat' (first|(refine CL.ret ?_)|(refine Gt.nil ?_; refine RW.nilw [0,1,2,4,5,6] ?_; dsimp only[H.keep,H.look,H.Fr.put,Nat.beq])|(refine Gt.assign ?_; refine RW.y (Y.assign rfl) rfl ?_))
 exact FQ.one rfl rfl rfl ⟨hK.trans0 hk3,rfl⟩
end Go.Proofs.YtbhbdeelpopgoaaGreatDoor.E

set_option linter.constructorNameAsVariable false
set_option linter.unusedVariables false
namespace Go.Proofs.YtbhbdeelpopgoaaGreatDoor.E
open Go Go.RowKit H
attribute [local irreducible] H.CL H.RW H.CW H.Yd H.thenK H.blockQ Go.Calls
theorem cloneR(v:Value)(n:Nat)(xs:List Value)(w:World)(hs:Sl w 39 v n xs)(h1 : ∀u∈xs,u.oneCell'=true)(hn:n≤1000000):Calls Tryz.prog 131 #[v] w fun e w'=>K0 w w'∧∃u,e = .returned u∧w'.ownsRow w.heap.size 46 39 u n xs:=by
 refine H.enter Tryz.func131 Tryz.ntmps131 rfl rfl ?_; dsimp only[H.args]
 repeat' (first|(refine CL.seq ?_)|(refine CL.region ?_)|(refine Gt.nil ?_; refine RW.nilw [0,2,4] ?_; dsimp only[H.keep,H.look,H.Fr.put,Nat.beq])|(refine Gt.assign ?_; refine RW.y (Y.assign rfl) rfl ?_)|(refine Gt.move ?_; refine RW.y (Y.move rfl) rfl ?_))
 obtain⟨p,cap,rfl,hcap⟩:=hs.shape
 refine RW.y (Y.eqsn rfl rfl) rfl ?_
 cases p with
 | none=>
  have hn:n=0:=by
   rcases hs.2.2 with ⟨p,h,_⟩|⟨g,off,cap,cur,e',fz,h,_⟩
   ·cases h; rfl
   ·cases h
  subst hn
  have hx:xs=[]:=List.eq_nil_of_length_eq_zero (by simpa using hs.1)
  subst hx
  repeat' (first|(refine CL.seq ?_)|(refine CL.region ?_)|(refine CL.condT rfl ?_)|(refine CL.ret ?_)|(refine Gt.nil ?_; refine RW.nilw [0,2,4] ?_; dsimp only[H.keep,H.look,H.Fr.put,Nat.beq])|(refine Gt.assign ?_; refine RW.y (Y.assign rfl) rfl ?_))
  exact FQ.one rfl rfl rfl ⟨Kept.refl _ _,_,rfl,World.ownsRow_nil _ _ _ _⟩
 | some a=>
  repeat' (first|(refine CL.seq ?_)|(refine CL.region ?_)|(refine CL.skip ?_)|(refine CL.condF rfl ?_)|(refine Gt.nil ?_; refine RW.nilw [0,2,4] ?_; dsimp only[H.keep,H.look,H.Fr.put,Nat.beq]))
  refine RW.build0 rfl (fun w1 hb1 hk1 hlt1=>?_)
  have hown:=fun sz=>own_new (n:=0) (sz:=sz) hb1 (Nat.le_refl _) (by simp) (by decide)
  repeat' ((refine Gt.move ?_; refine RW.y (Y.move rfl) rfl ?_))
  refine H.RW.app (sz:=39) rfl rfl rfl rfl rfl (hown 39) (hs.keep0 hk1) h1 (by omega) (by omega) (by omega) (fun u' w2 how hk2 hl2=>?_)
  repeat' (first|(refine CL.ret ?_)|(refine Gt.nil ?_; refine RW.nilw [0,2,4] ?_; dsimp only[H.keep,H.look,H.Fr.put,Nat.beq])|(refine Gt.assign ?_; refine RW.y (Y.assign rfl) rfl ?_))
  have how':=how
  rw[Nat.zero_add] at how'
  exact FQ.one rfl rfl rfl ⟨hk1.trans hk2 fun k h=> .inr (by simp[Value.ownBlock] at h; omega),_,rfl,how'⟩
theorem cloneNil(w:World):Calls Tryz.prog 124 #[.slice none 0 0] w fun e w'=>K0 w w'∧e = .returned (.slice none 0 0):=by
 refine H.enter Tryz.func124 Tryz.ntmps124 rfl rfl ?_; dsimp only[H.args]
 repeat' (first|(refine CL.seq ?_)|(refine CL.region ?_)|(refine Gt.nil ?_; refine RW.nilw [0,2,4] ?_; dsimp only[H.keep,H.look,H.Fr.put,Nat.beq])|(refine Gt.assign ?_; refine RW.y (Y.assign rfl) rfl ?_)|(refine Gt.move ?_; refine RW.y (Y.move rfl) rfl ?_))
 refine RW.y (Y.eqsn rfl rfl) rfl ?_
 repeat' (first|(refine CL.seq ?_)|(refine CL.region ?_)|(refine CL.condT rfl ?_)|(refine CL.ret ?_)|(refine Gt.nil ?_; refine RW.nilw [0,2,4] ?_; dsimp only[H.keep,H.look,H.Fr.put,Nat.beq])|(refine Gt.assign ?_; refine RW.y (Y.assign rfl) rfl ?_))
 exact FQ.one rfl rfl rfl ⟨Kept.refl _ _,rfl⟩
theorem vC_one(q:Value)(hq:q.oneCell'=true)(s:Nat): ∀u∈vC q s,u.oneCell'=true:=by
 intro u hu
 simp only[vC,List.mem_cons,List.not_mem_nil,or_false] at hu
 rcases hu with rfl|rfl|rfl|rfl
 ·rfl
 ·rfl
 ·rfl
 ·split
  ·exact hq
  ·rfl
theorem rowC_one(q:Value)(hq:q.oneCell'=true)(s:Nat): ∀u∈rowC q s,u.oneCell'=true:=by
 intro u hu
 simp only[rowC,List.mem_cons,List.mem_append,List.not_mem_nil,or_false] at hu
 rcases hu with rfl|hu|hu|rfl|rfl
 ·rfl
 ·exact vC_one q hq s u hu
 ·simp only[bv,List.mem_map] at hu
  obtain⟨b,_,rfl⟩:=hu
  rfl
 ·rfl
 ·rfl
theorem rowC_38(q:Value)(s:Nat):(rowC q s)[38]?=some (.slice none 0 0):=by
 have h:=sumOf_len s
 simp[rowC,vC,bv,textOf,h]
theorem set_self{α:Type}{l:List α}{j:Nat}{u:α}(h:l[j]?=some u):l.set j u=l:=by
 apply List.ext_getElem?
 intro i
 by_cases e:j=i
 ·subst e
  rw[List.getElem?_set_self (List.getElem?_eq_some_iff.1 h).1,h]
 ·rw[List.getElem?_set_ne e]
theorem rows_at(q:Value){L:List Nat}{i s j:Nat}(h:L[i]?=some s)(hj:j < 39):(L.flatMap (rowC q))[i * 39+j]?=(rowC q s)[j]?:=by
 induction L generalizing i with
 | nil=>simp at h
 | cons x L ih=>
  have hx:=rowC_len q x
  rw[List.flatMap_cons]
  cases i with
  | zero=>
   simp only[List.getElem?_cons_zero,Option.some.injEq] at h
   subst h
   rw[Nat.zero_mul,Nat.zero_add,List.getElem?_append_left (by omega)]
  | succ i=>
   rw[List.getElem?_cons_succ] at h
   rw[List.getElem?_append_right (by omega),hx,show(i+1) * 39+j - 39=i * 39+j from by omega]
   exact ih h
theorem own_set{w w':World}{base:Nat}{e:TypeId}{sz n cap g:Nat}{cur:Array Value}{xs:List Value}(h:w.ownsRow base e sz (.slice (some ⟨g,0,none⟩) n cap) n xs)(hg:w.heap[g]?=some (.cells cur e (0,0))){j:Nat}{u:Value}(hj:j < n * sz)(hb:w'.heap[g]?=some (.cells (cur.setIfInBounds j u) e (0,0))):w'.ownsRow base e sz (.slice (some ⟨g,0,none⟩) n cap) n (xs.set j u):=by
 refine⟨by rw[List.length_set]; exact h.1,?_⟩
 rcases h.2 with ⟨h,_⟩|⟨g',cap',cur',h1,hB,hg',hn,hm,hs,ht⟩
 ·cases h
 ·simp only[Value.slice.injEq,Option.some.injEq,Addr.mk.injEq,and_true,true_and] at h1
  obtain⟨rfl,rfl⟩:=h1
  rw[hg] at hg'
  simp only[Option.some.injEq,Obj.cells.injEq] at hg'
  obtain⟨rfl,_⟩:=hg'
  refine .inr ⟨g,cap,_,rfl,hB,hb,hn,hm,by rw[Array.size_setIfInBounds]; exact hs,?_⟩
  rw[Array.toList_setIfInBounds,List.take_set,ht]
theorem own_block{w:World}{base:Nat}{e:TypeId}{sz n:Nat}{u:Value}{xs:List Value}(h:w.ownsRow base e sz u n xs)(hn:0 < n): ∃g cap cur,u = .slice (some ⟨g,0,none⟩) n cap∧w.heap[g]?=some (.cells cur e (0,0))∧n * sz≤cur.size∧base≤g:=by
 rcases h.2 with ⟨_,h⟩|⟨g,cap,cur,rfl,hB,hg,hnc,hm,hs,ht⟩
 ·omega
 ·exact⟨g,cap,cur,rfl,hg,by rw[hs]; exact Nat.mul_le_mul_right _ hnc,hB⟩
theorem rowsOf{w:World}{q v:Value}{L:List Nat}(hv:RwsAt w q L v)(hq:q.oneCell'=true):Calls Tryz.prog 94 #[v] w fun e w'=>K0 w w'∧∃u,e = .returned u∧w'.ownsRow w.heap.size 46 39 u L.length (L.flatMap (rowC q)):=by
 have hfew:=hv.few
 have hones : ∀u∈L.flatMap (rowC q),u.oneCell'=true:=fun u hu=>by
  obtain⟨s,_,hs⟩:=List.mem_flatMap.1 hu
  exact rowC_one q hq s u hs
 refine H.enter Tryz.func94 Tryz.ntmps94 rfl rfl ?_; dsimp only[H.args]
 repeat' (first|(refine CL.seq ?_)|(refine CL.region ?_)|(refine Gt.nil ?_; refine RW.nilw [0,2,3,7,8,9] ?_; dsimp only[H.keep,H.look,H.Fr.put,Nat.beq])|(refine Gt.move ?_; refine RW.y (Y.move rfl) rfl ?_)|(refine Gt.assign ?_; refine RW.y (Y.assign rfl) rfl ?_))
 refine RW.fn rfl rfl ((cloneR v L.length _ w hv.sl hones (by omega)).mono ?_)
 rintro e w1 ⟨hk1,u,rfl,how⟩
 have hus:=Sl.of_own how
 repeat' (first|(refine CL.seq ?_)|(refine CL.region ?_)|(refine CL.block ?_)|(refine Gt.nil ?_; refine RW.nilw [0,2,3,7,8,9] ?_; dsimp only[H.keep,H.look,H.Fr.put,Nat.beq])|(refine Gt.move ?_; refine RW.y (Y.move rfl) rfl ?_)|(refine Gt.assign ?_; refine RW.y (Y.assign rfl) rfl ?_)|(refine Gt.len ?_; (refine RW.y (Y.lenx rfl (by assumption)) rfl ?_)))
 refine CL.loopS [0,7,8] (fun k vals wr=>∃(i:Nat),vals=[u,.int .i64 (L.length:Int),.int .i64 (i:Int)]∧k=L.length - i∧i≤L.length∧wr.ownsRow w.heap.size 46 39 u L.length (L.flatMap (rowC q))∧K0 w wr) L.length ⟨_,rfl,0,rfl,rfl,Nat.zero_le _,how,hk1⟩ ?_
 rintro k vals wr ⟨i,rfl,rfl,hi,hL,hKr⟩
 dsimp only[List.zip,List.zipWith]
 have hti:((i:Int)).toNat=i:=Int.toNat_natCast i
 rcases Nat.lt_or_ge i L.length with hlt|hge
 ·have hsr:=Sl.of_own hL
  obtain⟨s,hsL⟩ : ∃s,L[i]?=some s:=⟨L[i],List.getElem?_eq_getElem hlt⟩
  have h38:(L.flatMap (rowC q))[i * 39+38]?=some (.slice none 0 0):=(rows_at q hsL (by omega)).trans (rowC_38 q s)
  obtain⟨gu,cap,cur,hu,hgu,hsz,hB⟩:=own_block hL (by omega)
  subst hu
  repeat' (first|(refine CL.seq ?_)|(refine CL.region ?_)|(refine CL.skip ?_)|(refine CL.condP rfl (fun _=>?_) (fun _=>?_) <;> try (exfalso; omega))|(refine Gt.nil ?_; refine RW.nilw [0,2,3,7,8,9] ?_; dsimp only[H.keep,H.look,H.Fr.put,Nat.beq])|(refine Gt.lss ?_; refine RW.y (Y.lss rfl rfl) rfl ?_))
  refine CL.block ?_
  repeat' (first|(refine CL.seq ?_)|(refine CL.region ?_)|(refine Gt.nil ?_; refine RW.nilw [0,2,3,7,8,9] ?_; dsimp only[H.keep,H.look,H.Fr.put,Nat.beq])|(refine Gt.move ?_; refine RW.y (Y.move rfl) rfl ?_)|(refine Gt.assign ?_; refine RW.y (Y.assign rfl) rfl ?_))
  refine RW.elemG rfl rfl rfl rfl rfl rfl hsr (by omega) (by omega) (u:= .slice none 0 0) (by rw[hti]; exact h38) (fun p q=>?_)
  refine RW.fn rfl rfl ((cloneNil wr).mono ?_)
  rintro e w2 ⟨hk2,rfl⟩
  have hL2:=own_kept0 hL hk2
  have hgu2:=hk2.at0 hgu
  refine RW.y (Y.idx rfl rfl (Sl.of_own hL2) (by omega) (by omega)) rfl ?_
  refine RW.y (Y.fieldAddr (congrArg (fun a=>some (Value.pointer (some a))) (show Value.spot (.slice (some ⟨gu,0,none⟩) L.length cap) (((i:Int)).toNat * 39)=⟨gu,0+((i:Int)).toNat * 39,none⟩ from by simp[Value.spot,addr_add])) (by rfl)) rfl ?_
  refine RW.storeB rfl rfl rfl hgu2 (by omega) (fun w3 hb3 hk3=>?_)
  have hown3:=own_set hL2 hgu2 (j:=0+((i:Int)).toNat * 39+38) (u:= .slice none 0 0) (by omega) hb3
  rw[set_self (by rw[hti,Nat.zero_add]; exact h38)] at hown3
  repeat' (first|(refine CL.region ?_)|(refine CL.done ?_)|(refine Nm.block ?_)|(refine Nm.then ?_)|(refine Gt.nil ?_; refine RW.nilw [0,2,3,7,8,9] ?_; dsimp only[H.keep,H.look,H.Fr.put,Nat.beq])|(refine Gt.move ?_; refine RW.y (Y.move rfl) rfl ?_)|(refine Gt.add ?_; refine RW.y (Y.add64 rfl rfl (by omega) (by omega)) rfl ?_))
  exact⟨L.length - (i+1),_,rfl,rfl,rfl,by omega,i+1,rfl,rfl,by omega,hown3,(hKr.trans0 hk2).trans hk3 fun k h=> .inr (by omega)⟩
 ·have hi:i=L.length:=by omega
  subst hi
  repeat' (first|(refine CL.seq ?_)|(refine CL.region ?_)|(refine CL.condP rfl (fun _=>?_) (fun _=>?_) <;> try (exfalso; omega))|(refine CL.exit ?_)|(refine Ex.then ?_)|(refine Ex.hit ?_)|(refine CL.ret ?_)|(refine Gt.nil ?_; refine RW.nilw [0,2,3,7,8,9] ?_; dsimp only[H.keep,H.look,H.Fr.put,Nat.beq])|(refine Gt.move ?_; refine RW.y (Y.move rfl) rfl ?_)|(refine Gt.assign ?_; refine RW.y (Y.assign rfl) rfl ?_)|(refine Gt.lss ?_; refine RW.y (Y.lss rfl rfl) rfl ?_))
  exact FQ.one rfl rfl rfl ⟨hKr,u,rfl,hL⟩
end Go.Proofs.YtbhbdeelpopgoaaGreatDoor.E

