/- A range over a map, in whatever order. -/
import Derived.Test.YtgoelphibofcmaaGreatTiC
import Derived.Maps.RangeRun
import Derived.Test.YtgoelphibofcmaaGreatChecked
import Derived.Test.YtgoelphibofcmaaGreatTiD
import Derived.Test.YtgoelphibofcmaaGreatTiB
import Derived.RangeFuncNested
import Derived.RangeFuncBound
import Derived.RangeFuncCalls
import Derived.RangeFuncLeaves
import Derived.Shelf.Abstract
import Derived.Shelf.RegionOpen
import Derived.WalkKit
import Derived.OwnWalkIn
import Derived.TacticsInMore
import Derived.LoopNIn
import Derived.LoopIn
import Derived.BigQuiet
import Derived.RangeFuncBox
import Derived.RangeFuncWrites
import Derived.Maps.AppendAt
set_option linter.unusedVariables false
set_option linter.unusedSimpArgs false
set_option maxRecDepth 100000
set_option maxHeartbeats 16000000
namespace Go.Proofs.YtgoelphibofcmaaGreat.V
open Go.RowKit
def A9 (m:MK) (it nx ok en:Nat) (id:Id) (B:(Ex->Env->ar->Prop)->Env->ar->Prop) (b b1:Nat) (Q:Ex->Env->ar->Prop):Nat->List (List AV)->Env->ar->Prop
 |0,_,env,σ=>env it=.ptr id 0 0/\Q .normal (upd (upd env (some nx) (.gN [.bool false])) (some ok) (.bool false)) ⟨σ.get,σ.next+1⟩
 |n+1,left,env,σ=>env it=.ptr id 0 0/\∀i cs kv vv,left[i]? =some cs->part m.ka m.ks cs=some kv->cs[m.ks]? =some vv->
   B (aV b1 (du (A9 m it nx ok en id B b b1 Q n (left.eraseIdx i)) (aV b Q))) (upd (upd (upd env (some nx) (.gN [.bool true,kv,vv])) (some ok) (.bool true)) (some en) (.gN [kv,vv])) ⟨σ.get,σ.next+1⟩
def FR (m:MK) (tm:O) (site it nx ok en:Nat) (B:(Ex->Env->ar->Prop)->Env->ar->Prop) (b b1:Nat) (Q:Ex->Env->ar->Prop) (env:Env) (σ:ar):Prop:=
 ∃id r,cE env tm=.map id m/\σ.get id=some r/\r.w=true/\A9 m it nx ok en ⟨site,σ.next⟩ B b b1 Q r.rows.length r.rows (upd env (some it) (.ptr ⟨site,σ.next⟩ 0 0)) ⟨bB σ.get id {r with w:=false},σ.next+1⟩
variable {P:Program} {w w':World} {D D':Nat->Prop} {ι ι':Names} {hs:Nat} {g:Rows}
theorem jr.Ch (hc:∀b x,D b->w'.cell? ⟨b,x,none⟩=w.cell? ⟨b,x,none⟩) {a:AV} {v:Value} (h:jr P w D a v):jr P w' D a v:=by
 induction h with
 |int k n=>exact .int k n
 |bool b=>exact .bool b
 |str s=>exact .str s
 |cu=>exact .cu
 |gx=>exact .gx
 |jn=>exact .jn
 |jD=>exact .jD
 |C9 a c h=>exact .C9 a c h
 |sl rows b o n c sz vs h1 h2 h3 h4 h5 h5' h6 _ ih=>exact .sl rows b o n c sz vs h1 h2 h3 h4 h5 h5' (fun i j hi hj=>(hc b _ h4).trans (h6 i j hi hj)) ih
 |bK cs b o vs h1 Mc h2 _ ih=>exact .bK cs b o vs h1 Mc (fun j hj=>(hc b _ h1).trans (h2 j hj)) ih
 |agg cs vs f h1 h2 h3 _ ih=>exact .agg cs vs f h1 h2 h3 ih
 |fn f bZ vs g h1 h2 h3 _ ih=>exact .fn f bZ vs g h1 h2 h3 ih
theorem cq.Ch (hc:∀b x,D b->w'.cell? ⟨b,x,none⟩=w.cell? ⟨b,x,none⟩) {a:AV} {v:Value} (h:cq P w D ι a v):cq P w' D ι a v:=by
 induction h with
 |eD a v h=>exact .eD a v (h.Ch hc)
 |map id m B h1 h2=>exact .map id m B h1 h2
 |si id c B h1 h2=>exact .si id c B h1 h2
 |own id off len o cap B h1 h2 h3 h4 h5 h6=>exact .own id off len o cap B h1 h2 h3 h4 h5 h6
 |ptr id i off B h1 h2=>exact .ptr id i off B h1 h2
 |agg cs vs f h1 h2 h3 _ ih=>exact .agg cs vs f h1 h2 h3 ih
 |gN cs vs f h1 h2 _ ih=>exact .gN cs vs f h1 h2 ih
 |fn f bZ vs g h1 h2 h3 _ ih=>exact .fn f bZ vs g h1 h2 h3 ih
 |tb f bZ vs g h1 h2 h3 _ ih=>exact .tb f bZ vs g h1 h2 h3 ih
def l8 (w:World) (rr:Nat):Prop:=∃m s seen c,w.heap[rr]? =some (.mapIter m s seen c)
theorem l8.cell {rr:Nat} (h:l8 w rr) (x:Nat):w.cell? ⟨rr,x,none⟩=none:=by
 obtain⟨m,s,seen,c,h⟩:=h
 simp[World.cell?,h]
theorem gV.HV {B:re} {r:Row} (R:gV P w D ι B r):¬l8 w B.b:=by
 rintro⟨m,s,seen,c,h⟩
 cases hk:B.k with
 |none=>obtain⟨c',T,h3,_⟩:=(R.row hk).wY;rw[h]at h3;cases h3
 |some k=>
  cases k with
  |map m=>obtain⟨_,es,c',h3,_⟩:=R.map m hk;rw[h]at h3;cases h3
  |chan c=>obtain⟨_,buf,s',q,h3,_⟩:=R.chan c hk;rw[h]at h3;cases h3
theorem xt {rr:Nat} (h:l8 w rr) (h':l8 w' rr) (ho:∀b,b≠rr->w'.heap[b]? =w.heap[b]?):(∀{a v},cq P w D ι a v->cq P w' D ι a v):=fun hr=>hr.Ch fun b x _=>by
 by_cases hb:b=rr
 ·subst hb;rw[h.cell,h'.cell]
 ·exact World.cell?_of_block (ho b hb)
theorem fV.iter {rr:Nat} (S:fV P hs D ι g w) (h:l8 w rr) (h':l8 w' rr) (ho:∀b,b≠rr->w'.heap[b]? =w.heap[b]?) (hz:w'.heap.size=w.heap.size):fV P hs D ι g w':=
 ⟨by rw[hz];exact S.lo,fun b hb=>by rw[hz];exact S.dead b hb,fun id r hg=>by
  obtain⟨B,hB,R,k1,k2⟩:=S.row id r hg
  exact⟨B,hB,R.frame (ho _ fun e=>R.HV (e▸h)) fun a v hr=>xt h h' ho hr,k1,k2⟩,S.inj⟩
theorem lZ {ops:Array Oper} {Q:Exit->Act->World->Prop} {a:Act} {o:Oper} {l:List Oper} {v:Value} (hg:o.guard=none) (fN:(execOp a.eval o).run P w=.ok (.value v) w') (h:wpList P ops Q l (a.put o.dst v) w'):wpList P ops Q (o::l) a w:=by
 unfold wpList
 rw[if_pos (by simp[Region.wanted,hg])]
 exact .inl (by unfold Oper.wp;rw[fN];exact h)
theorem Ia {x y:AV} {u v:Value} (h1:cq P w D ι x u) (h2:cq P w D ι y v):cq P w D ι (.gN [x,y]) (.tuple #[u,v]):=
 .gN _ _ (fun j=>if j=0 then u else v) rfl (fun j hj=>by match j,hj with|0,_=>rfl|1,_=>rfl|j+2,hj=>simp at hj;omega) (fun j a ha=>by match j,ha with|0,ha=>simp at ha;subst ha;exact h1|1,ha=>simp at ha;subst ha;exact h2|j+2,ha=>simp at ha)
theorem Ib {x y z:AV} {u v t:Value} (h1:cq P w D ι x u) (h2:cq P w D ι y v) (h3:cq P w D ι z t):cq P w D ι (.gN [x,y,z]) (.tuple #[u,v,t]):=
 .gN _ _ (fun j=>if j=0 then u else if j=1 then v else t) rfl (fun j hj=>by match j,hj with|0,_=>rfl|1,_=>rfl|2,_=>rfl|j+3,hj=>simp at hj;omega) (fun j a ha=>by match j,ha with|0,ha=>simp at ha;subst ha;exact h1|1,ha=>simp at ha;subst ha;exact h2|2,ha=>simp at ha;subst ha;exact h3|j+3,ha=>simp at ha)
theorem H9 {x:AV} {u:Value} (h1:cq P w D ι x u):cq P w D ι (.gN [x]) (.tuple #[u]):=
 .gN _ _ (fun _=>u) rfl (fun j hj=>by match j,hj with|0,_=>rfl|j+1,hj=>simp at hj) (fun j a ha=>by match j,ha with|0,ha=>simp at ha;subst ha;exact h1|j+1,ha=>simp at ha)
structure KS (P:Program) (w:World) (D:Nat->Prop) (ι:Names) (m:MK) (L:List MapEntry) (left:List (List AV)):Prop where
 len:left.length=L.length
 at_:∀(i:Nat) (cs:List AV),left[i]? =some cs->∃(e:MapEntry) (kv vv:AV),L[i]? =some e/\part m.ka m.ks cs=some kv/\cs[m.ks]? =some vv/\cq P w D ι kv e.key/\cq P w D ι vv e.val
theorem KS.rep {m:MK} {L:List MapEntry} {left:List (List AV)} (h:KS P w D ι m L left) (hr:∀{a v},cq P w D ι a v->cq P w' D' ι' a v):KS P w' D' ι' m L left:=⟨h.len,fun i cs hi=>by
 obtain⟨e,kv,vv,h1,h2,h3,h4,h5⟩:=h.at_ i cs hi
 exact⟨e,kv,vv,h1,h2,h3,hr h4,hr h5⟩⟩
theorem mj {α β:Type} {l:List α} {k:List β} {i j:Nat} {x:α} (hl:l.length=k.length) (h:(l.eraseIdx i)[j]? =some x):∃q:Nat,l[q]? =some x/\(k.eraseIdx i)[j]? =k[q]? :=by
 rw[List.getElem?_eraseIdx]at h
 split at h
 ·rename_i hj;exact⟨j,h,by rw[List.getElem?_eraseIdx,if_pos hj]⟩
 ·rename_i hj;exact⟨j+1,h,by rw[List.getElem?_eraseIdx,if_neg hj]⟩
theorem KS.erase {m:MK} {L:List MapEntry} {left:List (List AV)} (h:KS P w D ι m L left) {i:Nat} (hi:i<L.length):KS P w D ι m (L.eraseIdx i) (left.eraseIdx i):=⟨by
 rw[List.length_eraseIdx,List.length_eraseIdx,h.len],fun j cs hj=>by
 obtain⟨q,hq,he⟩:=mj h.len hj
 obtain⟨e,kv,vv,h1,h2⟩:=h.at_ q cs hq
 exact⟨e,kv,vv,he.trans h1,h2⟩⟩
theorem mT:∀{l:List MapEntry} {i:Nat} {e:MapEntry},(l.map (·.born)).Nodup->l[i]? =some e->l.filter (fun x=>x.born !=e.born)=l.eraseIdx i
 |x::l,0,e,hn,h=>by
  simp at h;subst h
  obtain⟨h1,h2⟩:=List.nodup_cons.1 (show(x.born::l.map (·.born)).Nodup from hn)
  rw[List.filter_cons,if_neg (by simp),List.eraseIdx_cons_zero]
  refine List.filter_eq_self.2 fun y hy=>?_
  have:y.born≠x.born:=fun hc=>h1 (by rw[<-hc];exact List.mem_map_of_mem hy)
  simpa using this
 |x::l,i+1,e,hn,h=>by
  obtain⟨h1,h2⟩:=List.nodup_cons.1 (show(x.born::l.map (·.born)).Nodup from hn)
  simp only[List.getElem?_cons_succ]at h
  have hx:x.born≠e.born:=fun hc=>h1 (by rw[hc];exact List.mem_map_of_mem (List.mem_of_getElem? h))
  rw[List.filter_cons,if_pos (by simpa using hx),List.eraseIdx_cons_succ,mT h2 h]
theorem CP {es:Array MapEntry} {clock:Nat} {seen:Array Nat} {i:Nat} {e:MapEntry} (hs:Jn es clock) (h:(leftOf es seen).toList[i]? =some e):(leftOf es (seen.push e.born)).toList=(leftOf es seen).toList.eraseIdx i:=by
 have hn:((leftOf es seen).toList.map (·.born)).Nodup:=by
  unfold leftOf
  rw[Array.toList_filter]
  exact((List.filter_sublist (p:=fun e=> !seen.contains e.born) (l:=es.toList)).map MapEntry.born).nodup hs.2
 rw[<-mT hn h]
 unfold leftOf
 rw[Array.toList_filter,Array.toList_filter,List.filter_filter]
 refine List.filter_congr fun x _=>?_
 rw[contains_push]
 cases seen.contains x.born<;>cases hb:(x.born==e.born)<;>simp_all
theorem eval_put {a:Act} {d:Nat} {v:Value} (h:d<a.tmps.size):(a.put (some d) v).eval (.tmp d)=v:=by
 simp[Act.put,Act.eval,h]
def Ih (ix ie b b1 ok:Nat) (CV FJ CU:Oper) (qE:List Oper) (mQ:Code):Code:=
 .seq (.region ix #[CV,FJ] false) (.seq (.cond (.tmp ok) .skip (.exit b)) (.block b1 (.seq (.region ie (CU::qE).toArray false) mQ)))
structure GA (P:Program) (md:List (Nat×Nat)) (nt fid s0 it nx ok en:Nat) (CV FJ CU:Oper) (qE:List Oper) (mQ:Code) (vE:List aL) (qU:VC):Prop where
 h1:CV.op=.next (.tmp it) false
 h2:CV.dst=some nx
 h3:CV.guard=none
 h4:FJ.op=.extract (.tmp nx) 0
 h5:FJ.dst=some ok
 h6:FJ.guard=none
 h7:CU.op=.entry (.tmp it)
 h8:CU.dst=some en
 h9:CU.guard=none
 Ot:nx<nt
 Q2:ok<nt
 lt3:en<nt
 ne1:it≠nx
 ne2:it≠ok
 hE:allM (km P (CU::qE).toArray nt s0 false false #[] []) qE 1=some vE
 hR:iY P md nt fid mQ=some qU
theorem C2 (hm:P.follows .mixedOrders=true) {md:List (Nat×Nat)} {nt fid s0 ix ie b b1 it nx ok en:Nat} {m:MK} {id:Id} {CV FJ CU:Oper} {qE:List Oper} {mQ:Code} {vE:List aL} {qU:VC}
  (O:GA P md nt fid s0 it nx ok en CV FJ CU qE mQ vE qU) {rr bm:Nat} {es:Array MapEntry} {clock:Nat} (Fe:Jn es clock) {ds:List Deferred} {n0:Nat} {D0:Nat->Prop} {ι0:Names} {w0:World} {Q:Ex->Env->ar->Prop} {Q':Exit->Act->World->Prop}
  (hQ:sb P hs nt ds Q n0 D0 ι0 w0 Q') (hD0:¬D0 rr) (hrr:hs<=rr) (fY:bm≠rr):
  ∀(n:Nat) (left:List (List AV)) (env:Env) (σ:ar) (a:Act) (w:World) (D:Nat->Prop) (ι:Names) (seen:Array Nat),
   A9 m it nx ok en id (dI (Sound P) (.seq (.dR false vE) qU)) b b1 Q n left env σ->St P hs nt D ι env σ a w->a.defers=ds->n0<=σ.next->Step hs D0 ι0 w0 D ι w->
   (∃sz C,ι id=some ⟨rr,sz,C,none⟩)->D rr->D bm->w.heap[rr]? =some (.mapIter (some bm) clock seen clock)->w.heap[bm]? =some (.map es clock)->left.length=n->KS P w D ι m (leftOf es seen).toList left->
   oD P (Ih ix ie b b1 ok CV FJ CU qE mQ) (Exit.inBlock b Q') (n+1) a w:=by
 intro n
 induction n with
 |zero=>
  intro left env σ a w D ι seen hv cK hd Gj T hid Ry Rx hr hb hlen hL
  obtain⟨JO,hq⟩:=hv
  have ha:a.tmps.getD it undef=.pointer (some ⟨rr,0,none⟩):=by
   have:=cK.env it
   rw[JO]at this
   obtain⟨B,e,hB,_⟩:=iq this
   obtain⟨sz,C,hid⟩:=hid
   rw[hid]at hB;injection hB with hB;subst hB
   simpa using e
  have Qw:a.eval (.tmp it)=.pointer (some ⟨rr,0,none⟩):=ha
  rcases run_next_at (P:=P) w CV.type rr bm clock clock seen es clock hr hb Fe.1 (Nat.le_refl _)with⟨_,fN⟩|⟨e,he,_⟩
  rotate_left
  ·have h0:(leftOf es seen).toList=[]:=List.eq_nil_of_length_eq_zero (by rw[<-hL.len,hlen])
   rw[h0]at he;simp at he
  have D6:nx<a.tmps.size:=by rw[cK.size];exact O.Ot
  have E2:=ij (ij cK.env (H9 (.eD _ _ (.bool false))) (dst:=some nx) (fun d h=>by cases h;exact O.Ot) cK.size) (.eD _ _ (.bool false)) (dst:=some ok) (fun d h=>by cases h;exact O.Q2) (by rw[eC];exact cK.size)
  show zA P (.seq _ _) _ a w
  refine lp (j0 (wp_region_list ?_))
  refine lZ (v:=.tuple #[.bool false]) (w':=w) O.h3 (by simp[execOp,O.h1,Qw,fN,Result.andThen]) ?_
  refine lZ (v:=.bool false) (w':=w) O.h6 (by rw[O.h2];simp[execOp,O.h4,eval_put D6,Instr.extract]) ?_
  rw[O.h2,O.h5]
  refine lp (uV (t:=false) (eval_put (by rw[eC,cK.size];exact O.Q2)) (j0 (wp_exit ?_)))
  show Exit.inBlock b Q' (.exit b) _ _
  simp only[Exit.inBlock,if_true]
  exact hQ .normal _ ⟨σ.get,σ.next+1⟩ _ w D ι hq T ⟨cK.rW,cK.used.next,E2,by rw[eC,eC];exact cK.size⟩ (by rw[put_defers,put_defers];exact hd) (Nat.le_succ_of_le Gj)
 |succ n ih=>
  intro left env σ a w D ι seen hv cK hd Gj T hid Ry Rx hr hb hlen hL
  obtain⟨JO,hq⟩:=hv
  have ha:a.tmps.getD it undef=.pointer (some ⟨rr,0,none⟩):=by
   have:=cK.env it
   rw[JO]at this
   obtain⟨B,e,hB,_⟩:=iq this
   obtain⟨sz,C,hid⟩:=hid
   rw[hid]at hB;injection hB with hB;subst hB
   simpa using e
  have Qw:a.eval (.tmp it)=.pointer (some ⟨rr,0,none⟩):=ha
  rcases run_next_at (P:=P) w CV.type rr bm clock clock seen es clock hr hb Fe.1 (Nat.le_refl _)with⟨h0,_⟩|⟨e,he,w1,rL,fN⟩
  ·have:=hL.len
   rw[hlen,Array.length_toList]at this;omega
  obtain⟨i,hi,DX⟩:=List.getElem_of_mem he
  have Pe:(leftOf es seen).toList[i]? =some e:=by rw[List.getElem?_eq_getElem hi,DX]
  have lv:i<left.length:=by rw[hL.len];exact hi
  obtain⟨e',kv,vv,q1,q2,q3,q4,q5⟩:=hL.at_ i left[i] (List.getElem?_eq_getElem lv)
  rw[Pe]at q1;injection q1 with q1;subst q1
  replace hq:=hq i left[i] kv vv (List.getElem?_eq_getElem lv) q2 q3
  have JW:w1.heap[rr]? =some (.mapIter (some bm) clock seen clock):=by rcases rL with rfl|rfl<;>exact hr
  have ev:=MapKept.heap_set (o':=.mapIter (some bm) clock (seen.push e.born) clock) JW
  obtain⟨w2,s8⟩:∃w2,ChangeMaps.setBlock w1 rr (.mapIter (some bm) clock (seen.push e.born) clock)=w2:=⟨_,rfl⟩
  have ho:∀k,k≠rr->w2.heap[k]? =w.heap[k]? :=fun k hk=>by
   rw[<-s8]
   refine(ev.2 k hk).trans ?_
   rcases rL with rfl|rfl<;>rfl
  have hz:w2.heap.size=w.heap.size:=by
   rw[<-s8]
   rcases rL with rfl|rfl<;>simp[ChangeMaps.setBlock]
  have JX:w2.heap[rr]? =some (.mapIter (some bm) clock (seen.push e.born) clock):=by rw[<-s8];exact ev.1
  have wv:w2.os=w.os/\w2.tape=w.tape/\w2.output=w.output:=by
   rw[<-s8]
   rcases rL with rfl|rfl<;>exact⟨rfl,rfl,rfl⟩
  rw[s8]at fN
  clear s8 ev
  have I1:l8 w rr:=⟨_,_,_,_,hr⟩
  have I2:l8 w2 rr:=⟨_,_,_,_,JX⟩
  have rt:∀{a v},cq P w D ι a v->cq P w2 D ι a v:=xt I1 I2 ho
  have S2:=cK.rW.iter I1 I2 ho hz
  have T2:Step hs D0 ι0 w0 D ι w2:=⟨⟨wv.1.trans T.below.os,wv.2.1.trans T.below.tape,wv.2.2.trans T.below.output,by rw[hz];exact T.below.size,fun k hk=>(ho k (by omega)).trans (T.below.block k hk)⟩,fun k hk=>(ho k (fun hc=>hD0 (hc▸hk))).trans (T.oZ k hk),T.dead,T.names,T.new⟩
  have Hd:w2.heap[bm]? =some (.map es clock):=(ho bm fY).trans hb
  have D6:nx<a.tmps.size:=by rw[cK.size];exact O.Ot
  have E1:bw P w2 D ι env a:=fun t=>rt (cK.env t)
  have E2:=ij (ij E1 (Ib (.eD _ _ (.bool true)) (rt q4) (rt q5)) (dst:=some nx) (fun d h=>by cases h;exact O.Ot) cK.size) (.eD _ _ (.bool true)) (dst:=some ok) (fun d h=>by cases h;exact O.Q2) (by rw[eC];exact cK.size)
  have E3:=ij E2 (Ia (rt q4) (rt q5)) (dst:=some en) (fun d h=>by cases h;exact O.lt3) (by rw[eC,eC];exact cK.size)
  have K6:=run_entry_at (P:=P) w2 rr bm clock seen es clock e JX Hd (mem_left he).1 Fe.2
  show zA P (.seq _ _) _ a w
  refine lp (j0 (wp_region_list ?_))
  refine lZ (v:=.tuple #[.bool true,e.key,e.val]) (w':=w2) O.h3 (by simp[execOp,O.h1,Qw,fN,Result.andThen]) ?_
  refine lZ (v:=.bool true) (w':=w2) O.h6 (by rw[O.h2];simp[execOp,O.h4,eval_put D6,Instr.extract]) ?_
  rw[O.h2,O.h5]
  refine lp (uV (t:=true) (eval_put (by rw[eC,cK.size];exact O.Q2)) (j0 (wp_skip ?_)))
  refine rR (lp (j0 (wp_region_list ?_)))
  show wpList P _ _ (CU::qE) _ _
  have ha3:(((a.put (some nx) (.tuple #[.bool true,e.key,e.val])).put (some ok) (.bool true)).eval (.tmp it))=.pointer (some ⟨rr,0,none⟩):=by
   have n1:=O.ne1
   have n2:=O.ne2
   rw[<-Qw]
   simp[Act.put,Act.eval,Array.getD_eq_getD_getElem?,Array.getElem?_setIfInBounds,Ne.symm n1,Ne.symm n2]
  refine lZ (v:=.tuple #[e.key,e.val]) (w':=w2) O.h9 (by simp[execOp,O.h7,ha3,K6,Result.andThen]) ?_
  rw[O.h8]
  refine xG qE vE 1 _ ⟨σ.get,σ.next+1⟩ _ w2 D ι (fun _=>False) O.hE hq S2 cK.used.next (fun _ h=>h.elim) E3 (by rw[eC,eC,eC];exact cK.size) fun Ro σ3 a3 w3 D3 ι3 hk T3 St3 O1 Sc=>?_
  refine pA hm mQ qU O.hR _ Ro σ3 a3 w3 D3 ι3 _ hk St3 fun ex G0 σ4 a4 w4 D4 ι4 Hv T4 Rc Hi Sd=>?_
  have JH:a4.defers=ds:=by rw[Hi,O1,put_defers,put_defers,put_defers];exact hd
  have Sm:n0<=σ4.next:=Nat.le_trans Gj (Nat.le_trans (Nat.le_succ _) (Nat.le_trans Sc Sd))
  have LI:=T3.trans T4
  have TT:=T2.trans LI
  have sL:A9 m it nx ok en id (dI (Sound P) (.seq (.dR false vE) qU)) b b1 Q n (left.eraseIdx i) G0 σ4->oD P (Ih ix ie b b1 ok CV FJ CU qE mQ) (Exit.inBlock b Q') (n+1) a4 w4:=fun hq5=>by
   refine ih (left.eraseIdx i) G0 σ4 a4 w4 D4 ι4 (seen.push e.born) hq5 Rc JH Sm TT ?_ (LI.dead _ Ry) (LI.dead _ Rx) ((LI.oZ _ Ry).trans JX) ((LI.oZ _ Rx).trans Hd) ?_ ?_
   ·obtain⟨sz,C,hid⟩:=hid;exact⟨sz,C,LI.names _ _ hid⟩
   ·rw[List.length_eraseIdx,if_pos lv,hlen];rfl
   ·rw[CP Fe Pe]
    exact(hL.erase hi).rep fun hr=>LI.rep (rt hr)
  have out:∀ex,ex≠.normal->Q ex G0 σ4->Q' (Ql ex) a4 w4:=fun ex _ h=>hQ ex G0 σ4 a4 w4 D4 ι4 h TT Rc JH Sm
  cases ex with
  |normal=>exact sL Hv
  |ret=>exact out .ret (by simp) Hv
  |exit jR=>
   simp only[aV]at Hv
   simp only[Ql,Exit.inBlock]
   by_cases h1:jR=b1
   ·rw[if_pos h1]at Hv ⊢
    exact sL Hv
   ·rw[if_neg h1]at Hv ⊢
    simp only[du,aV]at Hv
    show Exit.inBlock b Q' (.exit jR) a4 w4
    simp only[Exit.inBlock]
    by_cases h2:jR=b
    ·rw[if_pos h2]at Hv ⊢
     exact hQ .normal G0 σ4 a4 w4 D4 ι4 Hv TT Rc JH Sm
    ·rw[if_neg h2]at Hv ⊢
     exact out (.exit jR) (by simp) Hv
def CS (P:Program) (nt:Nat) (c:Code) (W:(Ex->Env->ar->Prop)->Env->ar->Prop):Prop:=
 ∀(hs:Nat) (Q:Ex->Env->ar->Prop) (env:Env) (σ:ar) (a:Act) (w:World) (D:Nat->Prop) (ι:Names) (Q':Exit->Act->World->Prop),W Q env σ->St P hs nt D ι env σ a w->sb P hs nt a.defers Q σ.next D ι w Q'->zA P c Q' a w
theorem CS.code (hm:P.follows .mixedOrders=true) {md:List (Nat×Nat)} {nt fid:Nat} {c:Code} {vc:VC} (h:iY P md nt fid c=some vc):CS P nt c (dI (Sound P) vc):=
 fun _ Q env σ a w D ι Q' hv cK hQ=>pA hm c vc h Q env σ a w D ι Q' hv cK hQ
theorem CS.seq {nt:Nat} {x y:Code} {V W:(Ex->Env->ar->Prop)->Env->ar->Prop} (h:CS P nt x V) (k:CS P nt y W):CS P nt (.seq x y) (fun Q=>V (du (W Q) Q)):=fun hs Q env σ a w D ι Q' hv cK hQ=>by
 refine lp (h hs _ env σ a w D ι _ hv cK fun ex iQ σ1 a1 w1 D1 ι1 hq T jQ hd hle=>?_)
 cases ex with
 |normal=>exact k hs Q iQ σ1 a1 w1 D1 ι1 Q' hq jQ (by rw[hd];exact hQ.later T hle)
 |exit id=>exact hQ (.exit id) iQ σ1 a1 w1 D1 ι1 hq T jQ hd hle
 |ret=>exact hQ .ret iQ σ1 a1 w1 D1 ι1 hq T jQ hd hle
theorem CS.rng (hm:P.follows .mixedOrders=true) {md:List (Nat×Nat)} {nt fid s0 sA site ia ix ie b b1 it nx ok en:Nat} {m:MK} {CV FJ CU CY:Oper} {H6 qE:List Oper} {mQ:Code} {vA vE:List aL} {qU:VC} {t k e:TypeId} {tm:Operand} {tm':O}
  (O:GA P md nt fid s0 it nx ok en CV FJ CU qE mQ vE qU) (h1:CY.op=.range t tm) (h2:CY.dst=some it) (h3:CY.guard=none) (dy:it<nt) (ht:P.underlying t=some (.map k e)) (Pv:cO P tm=some tm') (hA:allM (km P (H6++[CY]).toArray nt sA false false #[] []) H6 0=some vA):
  CS P nt (.seq (.region ia (H6++[CY]).toArray false) (.block b (.loop (Ih ix ie b b1 ok CV FJ CU qE mQ))))
   (fun Q=>wpOps (Sound P) false vA (FR m tm' site it nx ok en (dI (Sound P) (.seq (.dR false vE) qU)) b b1 Q)):=fun hs Q env σ a w D ι Q' hv cK hQ=>by
 refine lp (j0 (wp_region_list ?_))
 show wpList P _ _ (H6++[CY]) a w
 refine uX [CY] H6 vA 0 env σ a w D ι (fun _=>False) hA hv cK.rW cK.used (fun _ h=>h.elim) cK.env cK.size fun iQ σ1 a1 w1 D1 ι1 hk T rf tt E9=>?_
 obtain⟨id,r,hid,hg,hw,hr⟩:=hk
 have gj:=cF rf.env Pv
 rw[hid]at gj
 obtain⟨B,hv,hB,hk⟩:=Ek gj
 obtain⟨B',dx,R,jV,oy⟩:=rf.rW.row id r hg
 rw[hB]at dx;injection dx with dx;subst dx
 obtain⟨hrsz,es,clock,hb,e5,⟨hlen,Fe⟩,hM⟩:=R.map m hk
 have hBl:=R.lt
 have fN:=run_range_map (P:=P) w1 t k e B.b es clock ht hb
 refine lZ (v:=.pointer (some ⟨w1.heap.size,0,none⟩)) (w':=w1.alloc (.mapIter (some B.b) clock #[] clock)) h3 (by simp[execOp,h1,hv,fN,Result.andThen]) ?_
 rw[h2]
 obtain⟨w2,s8⟩:∃w2,w1.alloc (.mapIter (some B.b) clock #[] clock)=w2:=⟨_,rfl⟩
 have hblk:∀b,b<w1.heap.size->w2.heap[b]? =w1.heap[b]? :=fun b hb=>by rw[<-s8];exact Below.heap_alloc _ _ _ hb
 have jZ:w2.heap[w1.heap.size]? =some (.mapIter (some B.b) clock #[] clock):=by rw[<-s8];exact heap_alloc_new _ _
 have hz:w2.heap.size=w1.heap.size+1:=by rw[<-s8];simp
 have wv:w2.os=w1.os/\w2.tape=w1.tape/\w2.output=w1.output:=by rw[<-s8];exact⟨rfl,rfl,rfl⟩
 rw[s8]
 clear s8 fN
 let D2:Nat->Prop:=fun x=>D1 x∨x=B.b∨x=w1.heap.size
 let ι2:Names:=kb ι1 ⟨site,σ1.next⟩ ⟨w1.heap.size,1,0,none⟩
 have jl:ι1 ⟨site,σ1.next⟩=none:=fresh rf.used (fun h=>h)
 have QT:∀{a v},cq P w1 D1 ι1 a v->cq P w2 D2 ι2 a v:=fun h=>h.frame (fun b hd=>hblk b (rf.rW.dead b hd)) (fun _ h=>.inl h) (eU jl)
 have BG:∀{j q C},σ1.get j=some q->ι2 j=some C->ι1 j=some C:=fun {j q C} hj hC=>by
  obtain⟨C',s5,_⟩:=rf.rW.row j q hj
  have:=eU (B:=⟨w1.heap.size,1,0,none⟩) jl j C' s5
  have e:=this.symm.trans hC
  injection e with e;rw[<-e];exact s5
 have lt:∀{j q C},σ1.get j=some q->ι1 j=some C->C.b<w1.heap.size:=fun {j q C} hj hC=>by
  obtain⟨C',s5,R',_⟩:=rf.rW.row j q hj
  rw[hC]at s5;injection s5 with s5;subst s5
  exact R'.lt
 have Ma:∀{j q},bB σ1.get id {r with w:=false} j=some q->∃q0,σ1.get j=some q0/\(q.w=true->q=q0/\j≠id)/\(j=id->q={r with w:=false}/\q0=r)/\(j≠id->q=q0):=fun {j q} h=>by
  unfold bB at h
  split at h
  ·rename_i e
   injection h with h;subst h
   exact⟨r,e▸hg,fun h=>(by cases h),fun _=>⟨rfl,rfl⟩,fun hc=>absurd e hc⟩
  ·rename_i e
   exact⟨q,h,fun _=>⟨rfl,e⟩,fun hc=>absurd hc e,fun _=>rfl⟩
 have S2:fV P hs D2 ι2 (bB σ1.get id {r with w:=false}) w2:=by
  refine⟨by rw[hz];exact Nat.le_succ_of_le rf.rW.lo,fun b hb=>?_,fun j q h=>?_,fun j j' q q' C C' h h' Hw hC s5 he=>?_⟩
  ·rw[hz]
   rcases hb with hb|rfl|rfl
   ·exact Nat.lt_succ_of_lt (rf.rW.dead b hb)
   ·exact Nat.lt_succ_of_lt hBl
   ·exact Nat.lt_succ_self _
  ·obtain⟨q0,Le,Hw,yq,fY⟩:=Ma h
   obtain⟨C,hC,RC,k1,k2⟩:=rf.rW.row j q0 Le
   have hCl:=lt Le hC
   refine⟨C,eU jl j C hC,?_,fun Oj=>k1 ((Hw Oj).1▸Oj),fun Oj hD=>?_⟩
   ·have RF:gV P w2 D2 ι2 C q0:=RC.frame (hblk _ hCl) fun a v h=>QT h
    by_cases hj:j=id
    ·obtain⟨e1,e2⟩:=yq hj
     rw[e1,<-e2];exact RF.flag false
    ·rw[fY hj];exact RF
   ·obtain⟨e1,e2⟩:=Hw Oj
    rcases hD with hD|hD|hD
    ·exact k2 (e1▸Oj) hD
    ·exact e2 (rf.rW.inj j id q0 r C B Le hg (e1▸Oj) hC hB hD)
    ·omega
  ·obtain⟨q0,Le,Sy,_⟩:=Ma h
   obtain⟨q0',Pq,_⟩:=Ma h'
   exact rf.rW.inj j j' q0 q0' C C' Le Pq ((Sy Hw).1▸Hw) (BG Le hC) (BG Pq s5) he
 have T2:Step hs D1 ι1 w1 D2 ι2 w2:=⟨⟨wv.1,wv.2.1,wv.2.2,by omega,fun k hk=>hblk k (Nat.lt_of_lt_of_le hk rf.rW.lo)⟩,fun b hb=>hblk b (rf.rW.dead b hb),fun _ h=>.inl h,eU jl,fun b hb=>by
  rcases hb with hb|rfl|rfl
  ·exact .inl hb
  ·exact .inr (jV hw)
  ·exact .inr rf.rW.lo⟩
 have E2:bw P w2 D2 ι2 (upd iQ (some it) (.ptr ⟨site,σ1.next⟩ 0 0)) (a1.put (some it) (.pointer (some ⟨w1.heap.size,0,none⟩))):=
  ij (fun t=>QT (rf.env t)) (by have:=cq.ptr (P:=P) (w:=w2) (D:=D2) (ι:=ι2) ⟨site,σ1.next⟩ 0 0 ⟨w1.heap.size,1,0,none⟩ (dF _ _ _) rfl;simpa using this) (fun d h=>by cases h;exact dy) rf.size
 have L2:KS P w2 D2 ι2 m (leftOf es #[]).toList r.rows:=by
  have he:(leftOf es #[]).toList=es.toList:=by simp[leftOf]
  rw[he]
  refine⟨by simpa using e5.symm,fun i cs hi=>?_⟩
  obtain⟨OJ,kv,vv,q1,q2,q3,q4,q5⟩:=hM i cs hi
  exact⟨OJ,kv,vv,by simpa using q1,q2,q3,QT q4,QT q5⟩
 show zA P (.block b (.loop (Ih ix ie b b1 ok CV FJ CU qE mQ))) Q' _ w2
 exact rR (A4 (r.rows.length+1) (C2 hm O Fe (ds:=a.defers) (n0:=σ.next) (D0:=D) (ι0:=ι) (w0:=w) hQ
  (fun hc=>by have:=cK.rW.dead _ hc;have:=T.below.size;omega) rf.rW.lo (by omega) r.rows.length r.rows _ ⟨bB σ1.get id {r with w:=false},σ1.next+1⟩ _ w2 D2 ι2 #[] hr
  ⟨S2,rf.used.upd.next,E2,by rw[eC];exact rf.size⟩ (by rw[put_defers];exact tt) (Nat.le_succ_of_le E9) (T.trans T2) ⟨1,0,dF _ _ _⟩ (.inr (.inr rfl)) (.inr (.inl rfl)) jZ ((hblk _ hBl).trans hb) rfl L2))
theorem CS.fn {f:Nat} {fn:Func} {c:Code} {args:List AV} {σ:ar} {K:AV->ar->Prop} {vr:List mZ} {W:(Ex->Env->ar->Prop)->Env->ar->Prop} (N4:P.funcs[f]? =some fn) (hc:fn.body=some c) (hr:fn.results.toList.mapM (BZ P)=some vr) (ha:fn.params.size+fn.nfree=args.length) (hle:fn.params.size+fn.nfree<=fn.ntmps)
  (h:CS P fn.ntmps c W) (hv:W (j8 vr K) (cw args) σ):Call P f args σ K:=
 iG (tU N4 hc hr ha hle fun hs w D ι a Q' cK hQ=>h hs (j8 vr K) (cw args) σ a w D ι Q' hv cK hQ)
theorem qV (hm:P.follows .mixedOrders=true) {c:VC} {Q Q':Ex->Env->ar->Prop} {env:Env} {σ:ar} (hQ:∀x e s,Q x e s->Q' x e s) (h:dI (Call P) c Q env σ):dI (Sound P) c Q' env σ:=
 ji (fun _ _ _ _ h=>gY hm h) ki c Q Q' env σ hQ h
theorem xL {m:MK} {it nx ok en:Nat} {id:Id} {B B':(Ex->Env->ar->Prop)->Env->ar->Prop} {b b1:Nat} {Q Q':Ex->Env->ar->Prop} (hB:∀R R' e s,(∀x e s,R x e s->R' x e s)->B R e s->B' R' e s) (hQ:∀x e s,Q x e s->Q' x e s):
  ∀(n:Nat) (left:List (List AV)) (env:Env) (σ:ar),A9 m it nx ok en id B b b1 Q n left env σ->A9 m it nx ok en id B' b b1 Q' n left env σ
 |0,_,env,σ,h=>⟨h.1,hQ _ _ _ h.2⟩
 |n+1,left,env,σ,h=>⟨h.1,fun i cs kv vv h1 h2 h3=>hB _ _ _ _ (fun x e s hx=>by
  have hn:=xL (id:=id) (m:=m) (it:=it) (nx:=nx) (ok:=ok) (en:=en) (b:=b) (b1:=b1) hB hQ n (left.eraseIdx i) e s
  cases x with
  |normal=>exact hn hx
  |ret=>exact hQ _ _ _ hx
  |exit jR=>
   simp only[aV]at hx ⊢
   split at hx
   ·rename_i h1;rw[if_pos h1];exact hn hx
   ·rename_i h1
    rw[if_neg h1]
    simp only[du,aV]at hx ⊢
    split at hx
    ·rename_i h2;rw[if_pos h2];exact hQ _ _ _ hx
    ·rename_i h2;rw[if_neg h2];exact hQ _ _ _ hx) (h.2 i cs kv vv h1 h2 h3)⟩
theorem FT (hm:P.follows .mixedOrders=true) {m:MK} {tm:O} {site it nx ok en:Nat} {c:VC} {b b1:Nat} {Q Q':Ex->Env->ar->Prop} {env:Env} {σ:ar} (hQ:∀x e s,Q x e s->Q' x e s) (h:FR m tm site it nx ok en (dI (Call P) c) b b1 Q env σ):FR m tm site it nx ok en (dI (Sound P) c) b b1 Q' env σ:=by
 obtain⟨id,r,h1,h2,h3,h4⟩:=h
 exact⟨id,r,h1,h2,h3,xL (B':=dI (Sound P) c) (fun R R' e s hR hb=>qV hm hR hb) hQ _ _ _ _ h4⟩
theorem uZ {α:Type}:∀{l:List α} {i:Nat} {x:α},l[i]? =some x->(x::l.eraseIdx i).Perm l
 |y::l,0,x,h=>by simp at h;subst h;exact List.Perm.refl _
 |y::l,i+1,x,h=>by
  simp only[List.getElem?_cons_succ]at h
  rw[List.eraseIdx_cons_succ]
  exact(List.Perm.swap _ _ _).trans ((uZ h).cons _)
theorem P3 {m:MK} {tm:O} {site it nx ok en:Nat} {c:VC} {b b1:Nat} {Q:Ex->Env->ar->Prop} {env:Env} {σ:ar} {id:Id} {r:Row} (I:List (List AV)->Env->ar->Prop) (h1:cE env tm=.map id m) (h2:σ.get id=some r) (h3:r.w=true) (JO:([nx,ok,en]++wT c).contains it=false)
  (h0:I [] (upd env (some it) (.ptr ⟨site,σ.next⟩ 0 0)) ⟨bB σ.get id {r with w:=false},σ.next+1⟩)
  (step:∀pre cs rest e s kv vv,(pre++cs::rest).Perm r.rows->I pre e s->fZ ([nx,ok,en]++wT c) (upd env (some it) (.ptr ⟨site,σ.next⟩ 0 0)) e->part m.ka m.ks cs=some kv->cs[m.ks]? =some vv->
   dI (Call P) c (aV b1 (du (I (pre++[cs])) (aV b Q))) (upd (upd (upd e (some nx) (.gN [.bool true,kv,vv])) (some ok) (.bool true)) (some en) (.gN [kv,vv])) ⟨s.get,s.next+1⟩)
  (fin:∀pre e s,pre.Perm r.rows->I pre e s->fZ ([nx,ok,en]++wT c) (upd env (some it) (.ptr ⟨site,σ.next⟩ 0 0)) e->Q .normal (upd (upd e (some nx) (.gN [.bool false])) (some ok) (.bool false)) ⟨s.get,s.next+1⟩):
  FR m tm site it nx ok en (dI (Call P) c) b b1 Q env σ:=by
 refine⟨id,r,h1,h2,h3,?_⟩
 have O2:∀e,fZ ([nx,ok,en]++wT c) (upd env (some it) (.ptr ⟨site,σ.next⟩ 0 0)) e->e it=.ptr ⟨site,σ.next⟩ 0 0:=fun e h=>by
  rw[h it JO];simp[upd]
 have key:∀n left pre e s,(pre++left).Perm r.rows->left.length=n->I pre e s->fZ ([nx,ok,en]++wT c) (upd env (some it) (.ptr ⟨site,σ.next⟩ 0 0)) e->A9 m it nx ok en ⟨site,σ.next⟩ (dI (Call P) c) b b1 Q n left e s:=by
  intro n
  induction n with
  |zero=>
   intro left pre e s hp hl hI hK
   have:left=[]:=List.eq_nil_of_length_eq_zero hl
   subst this
   rw[List.append_nil]at hp
   exact⟨O2 e hK,fin pre e s hp hI hK⟩
  |succ n ih=>
   intro left pre e s hp hl hI hK
   refine⟨O2 e hK,fun i cs kv vv hi hk hv=>?_⟩
   have lv:=(List.getElem?_eq_some_iff.1 hi).1
   have DZ:(cs::left.eraseIdx i).Perm left:=by
    exact uZ hi
   have Hq:(pre++cs::left.eraseIdx i).Perm r.rows:=(DZ.append_left pre).trans hp
   have Mq:fZ ([nx,ok,en]++wT c) (upd env (some it) (.ptr ⟨site,σ.next⟩ 0 0)) (upd (upd (upd e (some nx) (.gN [.bool true,kv,vv])) (some ok) (.bool true)) (some en) (.gN [kv,vv])):=
    ((hK.upd (fun t h=>by cases h;simp)).upd (fun t h=>by cases h;simp)).upd (fun t h=>by cases h;simp)
   refine ji (fun _ _ _ _ h=>h) aU c _ _ _ _ (fun x e' s' hx=>?_) (xR c _ _ _ (fun t ht=>List.mem_append_right _ ht) Mq (step pre cs (left.eraseIdx i) e s kv vv Hq hI hK hk hv))
   obtain⟨hx,E8⟩:=hx
   have sL:I (pre++[cs]) e' s'->A9 m it nx ok en ⟨site,σ.next⟩ (dI (Call P) c) b b1 Q n (left.eraseIdx i) e' s':=fun RH=>
    ih (left.eraseIdx i) (pre++[cs]) e' s' (by rw[List.append_assoc];exact Hq) (by rw[List.length_eraseIdx,if_pos lv];omega) RH E8
   cases x with
   |normal=>exact sL hx
   |ret=>exact hx
   |exit jR=>
    simp only[aV]at hx ⊢
    split at hx
    ·rename_i h1;rw[if_pos h1];exact sL hx
    ·rename_i h1;rw[if_neg h1];exact hx
 exact key _ r.rows [] _ _ (List.Perm.refl _) rfl h0 (fZ.refl _ _)
end Go.Proofs.YtgoelphibofcmaaGreat.V

namespace Go.Proofs.YtgoelphibofcmaaGreat.V
open Go.RowKit
def LC:Code->Code
 | .seq a _=>a
 |c=>c
def Gq:Code->Code
 | .seq _ b=>b
 |c=>c
def Q8:Code->Code
 | .block _ c=>c
 |c=>c
def SS:Code->Code
 | .loop c=>c
 |c=>c
def Qg:Code->List Oper
 | .region _ o _=>o.toList
 |_=>[]
def rg2 (k:Code):Code:=LC (LC (Gq (Gq k)))
def SO (k:Code):Code:=Gq (LC (Gq (Gq k)))
def rgL (k:Code):Code:=SS (Q8 (SO k))
def Nh (k:Code):Code:=Gq (Gq (rgL k))
def NS:Oper:={dst:=none,op:=.nilCheck (.tmp 0),type:=0,pos:= "",after:= #[],guard:=none}
def rgP (k:Code):List Oper:=(Qg (rg2 k)).dropLast
def rgO (k:Code):Oper:=(Qg (rg2 k)).getLastD NS
def Q3 (k:Code) (i:Nat):Oper:=(Qg (LC (rgL k))).getD i NS
def PT (k:Code):Oper:=(Qg (LC (Q8 (Nh k)))).headD NS
def PU (k:Code):List Oper:=(Qg (LC (Q8 (Nh k)))).tail
def rgR (k:Code):Code:=Gq (Q8 (Nh k))
def PV (P:Program) (v0 v1:VC) (vA:List aL) (m:MK) (tm:O) (site it nx ok en:Nat) (vE:List aL) (vR:VC) (b b1:Nat) (vT:VC) (Q:Ex->Env->ar->Prop):Env->ar->Prop:=
 dI (Sound P) v0 (du (dI (Sound P) v1 (du (wpOps (Sound P) false vA (FR m tm site it nx ok en (dI (Sound P) (.seq (.dR false vE) vR)) b b1 (du (dI (Sound P) vT Q) Q))) Q)) Q)
def Ni (P:Program) (v0 v1:VC) (vA:List aL) (m:MK) (tm:O) (site it nx ok en:Nat) (vE:List aL) (vR:VC) (b b1:Nat) (vT:VC) (Q:Ex->Env->ar->Prop):Env->ar->Prop:=
 dI (Call P) v0 (du (dI (Call P) v1 (du (wpOps (Call P) false vA (FR m tm site it nx ok en (dI (Call P) (.seq (.dR false vE) vR)) b b1 (du (dI (Call P) vT Q) Q))) Q)) Q)
theorem vC {F F':Env->ar->Prop} {Q:Ex->Env->ar->Prop} (h:∀e s,F e s->F' e s):∀x e s,du F Q x e s->du F' Q x e s:=fun x e s hx=>by
 cases x with
 |normal=>exact h e s hx
 |ret=>exact hx
 |exit id=>exact hx
theorem Ii {P:Program} (hm:P.follows .mixedOrders=true) {v0 v1:VC} {vA:List aL} {m:MK} {tm:O} {site it nx ok en:Nat} {vE:List aL} {vR:VC} {b b1:Nat} {vT:VC} {Q:Ex->Env->ar->Prop} {env:Env} {σ:ar}
  (h:Ni P v0 v1 vA m tm site it nx ok en vE vR b b1 vT Q env σ):PV P v0 v1 vA m tm site it nx ok en vE vR b b1 vT Q env σ:=
 qV hm (vC fun _ _ h=>qV hm (vC fun _ _ h=>kN (fun _ _ _ _ h=>gY hm h) ki (fun _ _ h=>FT hm (vC fun _ _ h=>qV hm (fun _ _ _ h=>h) h) h) _ _ _ h) h) h
end Go.Proofs.YtgoelphibofcmaaGreat.V

namespace Go.Proofs.YtgoelphibofcmaaGreat.V
open Go.RowKit
noncomputable def nR:Go.Code:=Tryz.f115.body.getD .skip
def Dp:VC:=(.dR false [⟨(some 2),(.cD (.k .cu)),none,115000000,[]⟩])
def IF:VC:=(.dR false [⟨(some 3),(.cD (.k .cu)),none,115001000,[]⟩])
def IG:List aL:=[⟨(some 7),(.cD (.t 0)),none,115002000,[]⟩,⟨(some 8),(.zC (.t 7)),none,115002001,[]⟩,⟨(some 9),(.fI 4 (.t 8)),none,115002002,[]⟩,⟨(some 10),(.load false 1 (.t 9)),none,115002003,[]⟩]
def zl:List aL:=[⟨(some 15),(.extract 0 (.t 14)),none,115004001,[]⟩,⟨(some 4),(.new [(.int .i64 0),(.int .i64 0)]),none,115004002,[]⟩,⟨none,(.store 2 (.t 4) (.t 15)),none,115004003,[]⟩]
def zm:VC:=(.seq (.dR false [⟨(some 16),(.cD (.t 3)),none,115005000,[]⟩,⟨(some 17),(.load true 2 (.t 4)),none,115005001,[]⟩,⟨(some 18),(.kj 2 1 [(.t 17)]),none,115005002,[]⟩,⟨(some 19),(.append 2 (.t 16) (.t 18)),none,115005003,[]⟩,⟨(some 3),(.cD (.t 19)),none,115005004,[]⟩]) (.seq (.dR false [⟨(some 20),(.cD (.k (.int .i64 0))),none,115006000,[]⟩]) (.block 2 (.loop (.seq (.dR false [⟨(some 21),(.bin .lss .i64 (.t 20) (.k (.int .i64 4))),none,115007000,[]⟩]) (.seq (.cond (.t 21) .skip (.exit 2)) (.seq (.block 3 (.seq (.dR false [⟨(some 22),(.cD (.t 20)),none,115008000,[]⟩,⟨(some 5),(.cD (.t 22)),none,115008001,[]⟩]) (.seq (.dR false [⟨(some 23),(.load true 2 (.t 4)),none,115009000,[]⟩,⟨(some 24),(.cD (.t 5)),none,115009001,[]⟩,⟨(some 25),(.call 149 [(.t 23),(.t 24)]),none,115009002,[]⟩,⟨(some 6),(.new [(.int .i64 0),(.int .i64 0)]),none,115009003,[]⟩,⟨none,(.store 2 (.t 6) (.t 25)),none,115009004,[]⟩]) (.seq (.dR false [⟨(some 26),(.load true 2 (.t 6)),none,115010000,[]⟩,⟨(some 27),(.call 140 [(.t 26)]),none,115010001,[]⟩]) (.cond (.t 27) (.dR false [⟨(some 28),(.cD (.t 3)),none,115011000,[]⟩,⟨(some 29),(.load true 2 (.t 6)),none,115011001,[]⟩,⟨(some 30),(.kj 2 1 [(.t 29)]),none,115011002,[]⟩,⟨(some 31),(.append 2 (.t 28) (.t 30)),none,115011003,[]⟩,⟨(some 3),(.cD (.t 31)),none,115011004,[]⟩]) .skip))))) (.dR false [⟨(some 32),(.bin .add .i64 (.t 20) (.k (.int .i64 1))),none,115012000,[]⟩,⟨(some 20),(.cD (.t 32)),none,115012001,[]⟩]))))))))
def zo:VC:=(.seq (.dR false [⟨(some 33),(.cD (.t 3)),none,115013000,[]⟩,⟨(some 34),(.call 172 [(.t 33)]),none,115013001,[]⟩,⟨(some 2),(.cD (.t 34)),none,115013002,[]⟩]) .ret)
def zq:List mZ:=[(.tmp 2)]
def Dj:O:=(.t 10)
theorem M8:GA Tryz.prog [] Tryz.f115.ntmps 115 115004000 11 12 13 14 (Q3 nR 0) (Q3 nR 1) (PT nR) (PU nR) (rgR nR) zl zm:=⟨by kernel_rfl,by kernel_rfl,by kernel_rfl,by kernel_rfl,by kernel_rfl,by kernel_rfl,by kernel_rfl,by kernel_rfl,by kernel_rfl,by decide,by decide,by decide,by decide,by decide,by kernel_rfl,by kernel_rfl⟩
theorem Nk:nR=.seq (LC nR) (.seq (LC (Gq nR)) (.seq (.seq (.region 2 (rgP nR++[rgO nR]).toArray false) (.block 0 (.loop (Ih 3 4 0 1 13 (Q3 nR 0) (Q3 nR 1) (PT nR) (PU nR) (rgR nR))))) (Gq (Gq (Gq nR))))):=by kernel_rfl
theorem LY (m:MK):CS Tryz.prog Tryz.f115.ntmps nR (PV Tryz.prog Dp IF IG m Dj 115002999 11 12 13 14 zl zm 0 1 zo):=by
 rw[Nk]
 exact CS.seq (CS.code (md:=[]) (fid:=115) mixed (by kernel_rfl)) (CS.seq (CS.code (md:=[]) (fid:=115) mixed (by kernel_rfl)) (CS.seq (CS.rng (tm:=.tmp 10) (sA:=115002000) (t:=107) (k:=50) (e:=2) mixed M8 (by kernel_rfl) (by kernel_rfl) (by kernel_rfl) (by decide) (by kernel_rfl) (by kernel_rfl) (by kernel_rfl)) (CS.code (md:=[]) (fid:=115) mixed (by kernel_rfl))))
theorem Ng {args:List AV} {σ:ar} {K:AV->ar->Prop} (ha:args.length=Tryz.f115.params.size) (m:MK) (h:Ni Tryz.prog Dp IF IG m Dj 115002999 11 12 13 14 zl zm 0 1 zo (j8 zq K) (cw args) σ):Call Tryz.prog 115 args σ K:=
 CS.fn Tryz.func115 (by kernel_rfl) (by kernel_rfl) ha.symm (by decide) (LY m) (Ii mixed h)
end Go.Proofs.YtgoelphibofcmaaGreat.V

namespace Go.Proofs.YtgoelphibofcmaaGreat.V
open Go.RowKit
attribute [local irreducible] dI wpOps ib Call
attribute [local go_sem] aJ gu eW gR gQ cE upd cw K.av cY AV.cells AV.cell rowOf rowsOf part ld rowAt bB cr dY eG jq bP dq eT gP fx dE eK dn dm eu ew bU bp db bR de dc eI eL eJ da cm dp eH bQ aO di cI jo bE cU bV aY du aV ea AV.undef bG bJ eA eE ei ep cJ eR eV cG eO eM dh dj List.getD_cons_zero List.getD_cons_succ List.getD_nil List.all_cons List.all_nil Bool.and_true Bool.true_and Bool.and_self Bool.not_true Bool.not_false Option.map_some Option.map_none Option.bind_some Option.bind_none List.length_cons List.length_nil List.take_succ_cons List.take_zero List.take_nil List.drop_succ_cons List.drop_zero List.drop_nil List.head?_cons List.map_cons List.map_nil List.getElem?_cons_zero List.getElem?_cons_succ List.cons_append List.nil_append List.append_nil List.length_map List.set_cons_zero List.set_cons_succ Nat.reduceMul eq_self Int.toNat_natCast Int.natCast_nonneg and_self true_and and_true decide_true decide_false Bool.false_eq_true Nat.zero_add Nat.add_zero List.contains_cons List.contains_nil Bool.or_false Bool.false_or beq_self_eq_true Nat.reduceBEq ne_eq not_true_eq_false not_false_eq_true Id.mk.injEq false_and and_false Nat.reduceLT Int.reduceLE Int.reduceLT Int.reduceToNat Int.reduceNeg Int.reduceAdd Nat.le_refl List.length_append beq_true beq_false Bool.not_eq_eq_eq_not or_false false_or eh ao aq aK br bI cC bc bz aQ bt cX cj
def ga (p:ai):Nat->List ai
 |0=>[p]
 |d+1=>if rT (bF p (d:Nat))=true then ga p d++[bF p (d:Nat)]else ga p d
def kP (l:List ae):List ai:=l.flatMap fun t=>ga t.aF 4
theorem lH (p:ai):∀d,0<(ga p d).length/\(ga p d).length<=d+1
 |0=>by simp[ga]
 |d+1=>by
  have:=lH p d
  rw[ga]
  split<;>(try simp)<;>omega
theorem AQ (p x:ai):∀d,x∈ga p d↔x=p∨∃k:Nat,k<d/\x=bF p k/\rT x=true
 |0=>by simp[ga]
 |d+1=>by
  have ih:=AQ p x d
  rw[ga]
  split
  ·rename_i h
   rw[List.mem_append,ih,List.mem_singleton]
   constructor
   ·rintro((h1|⟨k,h1,h2⟩)|rfl)
    ·exact .inl h1
    ·exact .inr ⟨k,by omega,h2⟩
    ·exact .inr ⟨d,by omega,rfl,h⟩
   ·rintro(h1|⟨k,h1,h2,h3⟩)
    ·exact .inl (.inl h1)
    ·by_cases hk:k=d
     ·subst hk;exact .inr h2
     ·exact .inl (.inr ⟨k,by omega,h2,h3⟩)
  ·rename_i h
   rw[ih]
   constructor
   ·rintro(h1|⟨k,h1,h2⟩)
    ·exact .inl h1
    ·exact .inr ⟨k,by omega,h2⟩
   ·rintro(h1|⟨k,h1,h2,h3⟩)
    ·exact .inl h1
    ·by_cases hk:k=d
     ·subst hk;rw[h2]at h3;exact absurd h3 h
     ·exact .inr ⟨k,by omega,h2,h3⟩
theorem tE {l:List ae} {x:ai}:x∈kP l↔∃t∈l,x=t.aF∨∃k:Nat,k<4/\x=bF t.aF k/\rT x=true:=by
 unfold kP
 rw[List.mem_flatMap]
 simp only[AQ]
theorem qf (l:List ae) (t:ae):kP (l++[t])=kP l++ga t.aF 4:=by simp[kP]
theorem te:∀l:List ae,(kP l).length<=l.length*5
 |[]=>by simp[kP]
 |t::l=>by
  have h:=te l
  have h2:=(lH t.aF 4).2
  unfold kP at *
  rw[List.flatMap_cons,List.length_append,List.length_cons]
  omega
theorem sk {a b:ae} (h:ad a=ad b):a=b:=by
 cases a with|mk p t=>cases b with|mk p' t'=>cases p;cases p';simp[ad]at h;simp[h]
theorem yP {l:List ae} {ts:List ae} (h:(l.map ad).Perm (ts.map ad)) (x:ae):x∈l↔x∈ts:=by
 have h2:ad x∈l.map ad↔ad x∈ts.map ad:=h.mem_iff
 constructor
 ·intro hx
  obtain⟨y,hy,e⟩:=List.mem_map.1 (h2.1 (List.mem_map_of_mem hx))
  rw[<-sk e];exact hy
 ·intro hx
  obtain⟨y,hy,e⟩:=List.mem_map.1 (h2.2 (List.mem_map_of_mem hx))
  rw[<-sk e];exact hy
def ArI (σ:ar) (T:Id) (ts:List ae) (pre:List (List AV)) (e0:Env) (s0:ar):Prop:=
 ∃l':List ae,pre=l'.map ad/\((l'=[]/\e0 3=.cu)∨∃o:Id,e0 3=.own o 0 (kP l').length/\s0.get o=some ⟨true,2,(kP l').map aa⟩/\σ.next<=o.aW/\o.aW<s0.next)/\σ.next<=s0.next/\(∀x:Id,x.aW<σ.next->x≠T->s0.get x=σ.get x)/\s0.get T=some ⟨false,mP.nv,ts.map ad⟩
theorem GF {σ:ar} {c T O:Id} {s:aC} {ts:List ae} (h:ph σ.get σ.next c T O s ts) (hF:gK ts) (h0:ts≠[]) (qs:List ai) (hR:kR qs) (hm:∀x,x∈qs↔x∈kP ts):
  Call Tryz.prog 115 [.ptr c 0 0] σ (fun r σ'=>∃(o:Id) (X:List ai),r=.own o 0 qs.length/\σ'.get o=some ⟨true,2,(qs++X).map aa⟩/\σ.next<=o.aW/\o.aW<σ'.next/\σ.next<=σ'.next/\(∀x:Id,x.aW<σ.next->x≠T->σ'.get x=σ.get x)/\σ'.get T=some ⟨false,mP.nv,ts.map ad⟩):=by
 refine Ng rfl mP ?_
 have fy:=h.row
 have Jg:=h.tl
 have v1:=dv h.cv
 have v2:=dv h.tv
 unfold Ni
 rw[Dp]
 (try((repeat(revert hN;revert N;apply Pn.out));refine wk @fy ?_;(repeat(refine Pn.mk ?_;intro N hN))))
 have hTw:((⟨115002999,σ.next+1+1+1⟩:Id)=T)=False:=eq_false fun e=>by have:=h.tv;rw[<-e]at this;(try dsimp only at this);omega
 refine Bs (P3 (id:=T) (r:=⟨true,mP.nv,ts.map ad⟩) (ArI σ T ts) (sd @Dj.eq_1) (sd (tw @Jg @v2)) rfl (by decide) ?_ ?_ ?_)
 ·exact⟨[],rfl,.inl ⟨rfl,sd @Nat.zero_add⟩,by(try dsimp only);omega,fun x hx hT=>by
   have h1:=dv hx
   have h2:=eq_false hT
   simp only[go_sem, ↓reduceIte,Nat.reduceEqDiff,Nat.reduceAdd,Nat.reduceSub,Nat.reduceLeDiff,reduceCtorEq,h1,h2],sd @Nat.zero_add⟩
 ·rintro pre cs rest e0 s0 kv vv hp ⟨l',rfl,hout,Gj,jl,hT⟩ hK hpart hvv
  have rJ:cs∈ts.map ad:=hp.subset (by simp)
  obtain⟨tl,hx,rfl⟩:=List.mem_map.1 rJ
  have hlen:=hp.length_eq
  simp only[List.length_append,List.length_map,List.length_cons]at hlen
  have An:=hF.so
  have I3:=te l'
  have Hu:rT tl.aF=true:=by
   obtain⟨i,hi,rfl⟩:=List.getElem_of_mem hx
   have:=hF.pt hi
   rwa [iE hi]at this
  obtain⟨hxx,Lm⟩:=nY Hu
  simp[part,ad,MK.ks]at hpart hvv
  subst hpart hvv
  rw[zl,zm]
  have Qv:=h.tv
  have vT:=dv (i:=T) (n:=s0.next) (by omega)
  clear hp rJ hK
  rcases hout with⟨Aq,e3⟩|⟨o,e3,og,on,ov⟩
  ·have tz:(kP l'++ga tl.aF 0).length=1:=by rw[Aq];rfl
   have kf:(kP l'++ga tl.aF 0).map aa=[aa tl.aF]:=by rw[Aq];rfl
   (try((repeat(revert hN;revert N;apply Pn.out));refine wk (tw @e3 @aa.eq_1) ?_;(repeat(refine Pn.mk ?_;intro N hN))))
   refine aH (fun n env st=>∃d:Nat,n=(4)-d/\d<=(4)/\env 20=.int .i64 (d:Int)/\st.get ⟨115004002,s0.next+1⟩=some ⟨true,2,[aa tl.aF]⟩/\((∃u:Id,env 3=.own u 0 (kP l'++ga tl.aF d).length/\st.get u=some ⟨true,2,(kP l'++ga tl.aF d).map aa⟩/\s0.next+2<=u.aW/\u.aW<st.next)/\s0.next+3<=st.next/\(∀y:Id,y.aW<σ.next->y≠T->st.get y=σ.get y)/\st.get T=some ⟨false,mP.nv,ts.map ad⟩)) (4) ⟨0,by omega,by omega,sl @aa.eq_1,sl @aa.eq_1,by(try dsimp only);exact⟨⟨⟨115005003,s0.next+1+1⟩,sd @tz,sd (tw @kf @aa.eq_1),by(try dsimp only);omega,by(try dsimp only);omega⟩,by omega,fun y hy Fg=>by
    have h1:=dv (i:=y) (n:=s0.next) (by omega)
    have h2:=jl y hy Fg
    simp only[go_sem, ↓reduceIte,Nat.reduceEqDiff,Nat.reduceAdd,Nat.reduceSub,Nat.reduceLeDiff,reduceCtorEq,h1,h2],sd (tw @vT @hT)⟩⟩ ?_
   rintro n_b env_b st_b ⟨d,rfl,ble,o9,bg0,bI0⟩ ec
   have b4:=ec 4 (by kernel_rfl)
   simp only[go_sem, ↓reduceIte,Nat.reduceEqDiff,Nat.reduceAdd,Nat.reduceSub,Nat.reduceLeDiff,reduceCtorEq,aa]at b4
   clear ec
   obtain⟨⟨u,b3,bu,bun,Rl⟩,bn,ec,bT⟩:=bI0
   have Gg:(kP l'++ga tl.aF d).length<=16777215:=by
    have:=(lH tl.aF d).2
    rw[List.length_append];omega
   obtain⟨L,hL⟩:∃L,kP l'++ga tl.aF d=L:=⟨_,rfl⟩
   rw[hL]at b3 bu Gg
   have ME:=(lH tl.aF d).2
   have P0:=dv (i:=T) (n:=st_b.next) (by omega)
   have IJ:=dv Rl
   have tG:=dv (i:=⟨115004002,s0.next+1⟩) (n:=st_b.next) (by(try dsimp only);omega)
   by_cases hd:(d:Int)<4
   ·have er:∀{e:Env} {gg:Rows} {nx:Nat},(e 20=.int .i64 (IntKind.i64.wrap ((d:Int)+1)))->(gg ⟨115004002,s0.next+1⟩=some ⟨true,2,[aa tl.aF]⟩)->((∃u:Id,e 3=.own u 0 (kP l'++ga tl.aF (d+1)).length/\gg u=some ⟨true,2,(kP l'++ga tl.aF (d+1)).map aa⟩/\s0.next+2<=u.aW/\u.aW<nx)/\s0.next+3<=nx/\(∀y:Id,y.aW<σ.next->y≠T->gg y=σ.get y)/\gg T=some ⟨false,mP.nv,ts.map ad⟩)->∃m0,m0<(4)-d/\∃d:Nat,m0=(4)-d/\d<=(4)/\e 20=.int .i64 (d:Int)/\gg ⟨115004002,s0.next+1⟩=some ⟨true,2,[aa tl.aF]⟩/\((∃u:Id,e 3=.own u 0 (kP l'++ga tl.aF d).length/\gg u=some ⟨true,2,(kP l'++ga tl.aF d).map aa⟩/\s0.next+2<=u.aW/\u.aW<nx)/\s0.next+3<=nx/\(∀y:Id,y.aW<σ.next->y≠T->gg y=σ.get y)/\gg T=some ⟨false,mP.nv,ts.map ad⟩):=fun x1 x2 x3=>⟨_,by omega,d+1,rfl,by omega,(by rw[x1,ax (by omega)]),x2,x3⟩
    have cK:=vH tl.aF d (jc (by omega)) hxx Lm
    have q9:=j6 (bF tl.aF d)
    have Cw:(L.map aa).length=L.length:=by simp
    cases hpd:rT (bF tl.aF d)
    ·rw[hpd]at q9
     have iR:kP l'++ga tl.aF (d+1)=L:=by rw[ga,hpd];exact hL
     (repeat(first|((repeat(revert hN;revert N;apply Pn.out));refine wk (tw @o9 (tw @bg0 (tw @b4 (tw @b3 (tw @hd (tw @tG @aa.eq_1)))))) ?_;(repeat(refine Pn.mk ?_;intro N hN)))|((try apply Or.inl);refine⟨_,aj.x (cK) (sd (tw @o9 (tw @bg0 (tw @b4 (tw @b3 (tw @hd (tw @tG @aa.eq_1))))))),?_⟩;refine hN _ _ ?_;clear hN N)|((try apply Or.inl);refine⟨_,aj.x (q9) (sd (tw @o9 (tw @bg0 (tw @b4 (tw @b3 (tw @hd (tw @tG @aa.eq_1))))))),?_⟩;refine hN _ _ ?_;clear hN N)))
     refine er ?_ ?_ (by(try dsimp only);exact⟨⟨u,by rw[iR];simp only[go_sem, ↓reduceIte,Nat.reduceEqDiff,Nat.reduceAdd,Nat.reduceSub,Nat.reduceLeDiff,reduceCtorEq,b3],by rw[iR];simp only[go_sem, ↓reduceIte,Nat.reduceEqDiff,Nat.reduceAdd,Nat.reduceSub,Nat.reduceLeDiff,reduceCtorEq,bu,IJ],by omega,by omega⟩,by omega,fun y hy Fg=>by
      have h1:=dv (i:=y) (n:=st_b.next) (by omega)
      have h2:=ec y hy Fg
      simp only[go_sem, ↓reduceIte,Nat.reduceEqDiff,Nat.reduceAdd,Nat.reduceSub,Nat.reduceLeDiff,reduceCtorEq,h1,h2],sd (tw @P0 @bT)⟩)
     all_goals simp only[go_sem, ↓reduceIte,Nat.reduceEqDiff,Nat.reduceAdd,Nat.reduceSub,Nat.reduceLeDiff,reduceCtorEq,o9,bg0,b4,tG,aa]
    ·rw[hpd]at q9
     have iR:kP l'++ga tl.aF (d+1)=L++[bF tl.aF d]:=by rw[ga,hpd,if_pos rfl,<-hL,List.append_assoc]
     have Gk:(L++[bF tl.aF d]).length=L.length+1:=by rw[List.length_append];rfl
     have zI:(L++[bF tl.aF d]).map aa=L.map aa++[aa (bF tl.aF d)]:=by simp
     have uT:=cQ (a:=T) (b:=u) (by omega)
     have ux:=cQ (a:=⟨115004002,s0.next+1⟩) (b:=u) (by(try dsimp only);omega)
     (repeat(first|((repeat(revert hN;revert N;apply Pn.out));refine wk (tw @o9 (tw @bg0 (tw @b4 (tw @b3 (tw @bu (tw @hd (tw @IJ (tw @tG (tw @ux (tw @Cw (tw @Gg @aa.eq_1))))))))))) ?_;(repeat(refine Pn.mk ?_;intro N hN)))|((try apply Or.inl);refine⟨_,aj.x (cK) (sd (tw @o9 (tw @bg0 (tw @b4 (tw @b3 (tw @bu (tw @hd (tw @IJ (tw @tG (tw @ux (tw @Cw (tw @Gg @aa.eq_1)))))))))))),?_⟩;refine hN _ _ ?_;clear hN N)|((try apply Or.inl);refine⟨_,aj.x (q9) (sd (tw @o9 (tw @bg0 (tw @b4 (tw @b3 (tw @bu (tw @hd (tw @IJ (tw @tG (tw @ux (tw @Cw (tw @Gg @aa.eq_1)))))))))))),?_⟩;refine hN _ _ ?_;clear hN N)))
     refine er ?_ ?_ (by(try dsimp only);exact⟨⟨⟨115011003,st_b.next+1+1+1+1⟩,by rw[iR,Gk];simp only[go_sem, ↓reduceIte,Nat.reduceEqDiff,Nat.reduceAdd,Nat.reduceSub,Nat.reduceLeDiff,reduceCtorEq],by rw[iR,zI];simp only[go_sem, ↓reduceIte,Nat.reduceEqDiff,Nat.reduceAdd,Nat.reduceSub,Nat.reduceLeDiff,reduceCtorEq,aa],by(try dsimp only);omega,by(try dsimp only);omega⟩,by omega,fun y hy Fg=>by
      have h1:=dv (i:=y) (n:=st_b.next) (by omega)
      have h2:=ec y hy Fg
      have h3:=cQ (a:=y) (b:=u) (by omega)
      simp only[go_sem, ↓reduceIte,Nat.reduceEqDiff,Nat.reduceAdd,Nat.reduceSub,Nat.reduceLeDiff,reduceCtorEq,h1,h2,h3],sd (tw @P0 (tw @uT @bT))⟩)
     all_goals simp only[go_sem, ↓reduceIte,Nat.reduceEqDiff,Nat.reduceAdd,Nat.reduceSub,Nat.reduceLeDiff,reduceCtorEq,o9,bg0,b4,tG,ux,aa]
   ·have Hi:d=4:=by omega
    subst Hi
    (try((repeat(revert hN;revert N;apply Pn.out));refine wk (tw @o9 (tw @bg0 (tw @b4 @hd))) ?_;(repeat(refine Pn.mk ?_;intro N hN))))
    exact⟨l'++[tl],by rw[List.map_append];rfl,.inr ⟨u,by rw[qf,hL];simp only[go_sem, ↓reduceIte,Nat.reduceEqDiff,Nat.reduceAdd,Nat.reduceSub,Nat.reduceLeDiff,reduceCtorEq,b3],by rw[qf,hL];exact bu,by omega,by(try dsimp only);omega⟩,by(try dsimp only);omega,ec,bT⟩
  ·have vo:=dv ov
   have oT:=cQ (a:=T) (b:=o) (by omega)
   have pI:((kP l').map aa).length=(kP l').length:=by simp
   have tz:(kP l'++ga tl.aF 0).length=(kP l').length+1:=by simp[ga]
   have kf:(kP l'++ga tl.aF 0).map aa=(kP l').map aa++[aa tl.aF]:=by simp[ga]
   have e1:(kP l').length<=16777215:=by omega
   have xo:=cQ (a:=o) (b:=⟨115004002,s0.next+1⟩) (by(try dsimp only);omega)
   (try((repeat(revert hN;revert N;apply Pn.out));refine wk (tw @e3 (tw @og (tw @vo (tw @pI (tw @e1 @aa.eq_1))))) ?_;(repeat(refine Pn.mk ?_;intro N hN))))
   refine aH (fun n env st=>∃d:Nat,n=(4)-d/\d<=(4)/\env 20=.int .i64 (d:Int)/\st.get ⟨115004002,s0.next+1⟩=some ⟨true,2,[aa tl.aF]⟩/\((∃u:Id,env 3=.own u 0 (kP l'++ga tl.aF d).length/\st.get u=some ⟨true,2,(kP l'++ga tl.aF d).map aa⟩/\s0.next+2<=u.aW/\u.aW<st.next)/\s0.next+3<=st.next/\(∀y:Id,y.aW<σ.next->y≠T->st.get y=σ.get y)/\st.get T=some ⟨false,mP.nv,ts.map ad⟩)) (4) ⟨0,by omega,by omega,sl (tw @aa.eq_1 @xo),sl (tw @aa.eq_1 @xo),by(try dsimp only);exact⟨⟨⟨115005003,s0.next+1+1⟩,sd @tz,sd (tw @kf @aa.eq_1),by(try dsimp only);omega,by(try dsimp only);omega⟩,by omega,fun y hy Fg=>by
    have h1:=dv (i:=y) (n:=s0.next) (by omega)
    have h2:=jl y hy Fg
    have h3:=cQ (a:=y) (b:=o) (by omega)
    simp only[go_sem, ↓reduceIte,Nat.reduceEqDiff,Nat.reduceAdd,Nat.reduceSub,Nat.reduceLeDiff,reduceCtorEq,h1,h2,h3],sd (tw @vT (tw @hT @oT))⟩⟩ ?_
   rintro n_b env_b st_b ⟨d,rfl,ble,o9,bg0,bI0⟩ ec
   have b4:=ec 4 (by kernel_rfl)
   simp only[go_sem, ↓reduceIte,Nat.reduceEqDiff,Nat.reduceAdd,Nat.reduceSub,Nat.reduceLeDiff,reduceCtorEq,aa,xo]at b4
   clear ec
   obtain⟨⟨u,b3,bu,bun,Rl⟩,bn,ec,bT⟩:=bI0
   have Gg:(kP l'++ga tl.aF d).length<=16777215:=by
    have:=(lH tl.aF d).2
    rw[List.length_append];omega
   obtain⟨L,hL⟩:∃L,kP l'++ga tl.aF d=L:=⟨_,rfl⟩
   rw[hL]at b3 bu Gg
   have ME:=(lH tl.aF d).2
   have P0:=dv (i:=T) (n:=st_b.next) (by omega)
   have IJ:=dv Rl
   have tG:=dv (i:=⟨115004002,s0.next+1⟩) (n:=st_b.next) (by(try dsimp only);omega)
   by_cases hd:(d:Int)<4
   ·have er:∀{e:Env} {gg:Rows} {nx:Nat},(e 20=.int .i64 (IntKind.i64.wrap ((d:Int)+1)))->(gg ⟨115004002,s0.next+1⟩=some ⟨true,2,[aa tl.aF]⟩)->((∃u:Id,e 3=.own u 0 (kP l'++ga tl.aF (d+1)).length/\gg u=some ⟨true,2,(kP l'++ga tl.aF (d+1)).map aa⟩/\s0.next+2<=u.aW/\u.aW<nx)/\s0.next+3<=nx/\(∀y:Id,y.aW<σ.next->y≠T->gg y=σ.get y)/\gg T=some ⟨false,mP.nv,ts.map ad⟩)->∃m0,m0<(4)-d/\∃d:Nat,m0=(4)-d/\d<=(4)/\e 20=.int .i64 (d:Int)/\gg ⟨115004002,s0.next+1⟩=some ⟨true,2,[aa tl.aF]⟩/\((∃u:Id,e 3=.own u 0 (kP l'++ga tl.aF d).length/\gg u=some ⟨true,2,(kP l'++ga tl.aF d).map aa⟩/\s0.next+2<=u.aW/\u.aW<nx)/\s0.next+3<=nx/\(∀y:Id,y.aW<σ.next->y≠T->gg y=σ.get y)/\gg T=some ⟨false,mP.nv,ts.map ad⟩):=fun x1 x2 x3=>⟨_,by omega,d+1,rfl,by omega,(by rw[x1,ax (by omega)]),x2,x3⟩
    have cK:=vH tl.aF d (jc (by omega)) hxx Lm
    have q9:=j6 (bF tl.aF d)
    have Cw:(L.map aa).length=L.length:=by simp
    cases hpd:rT (bF tl.aF d)
    ·rw[hpd]at q9
     have iR:kP l'++ga tl.aF (d+1)=L:=by rw[ga,hpd];exact hL
     (repeat(first|((repeat(revert hN;revert N;apply Pn.out));refine wk (tw @o9 (tw @bg0 (tw @b4 (tw @b3 (tw @hd (tw @tG @aa.eq_1)))))) ?_;(repeat(refine Pn.mk ?_;intro N hN)))|((try apply Or.inl);refine⟨_,aj.x (cK) (sd (tw @o9 (tw @bg0 (tw @b4 (tw @b3 (tw @hd (tw @tG @aa.eq_1))))))),?_⟩;refine hN _ _ ?_;clear hN N)|((try apply Or.inl);refine⟨_,aj.x (q9) (sd (tw @o9 (tw @bg0 (tw @b4 (tw @b3 (tw @hd (tw @tG @aa.eq_1))))))),?_⟩;refine hN _ _ ?_;clear hN N)))
     refine er ?_ ?_ (by(try dsimp only);exact⟨⟨u,by rw[iR];simp only[go_sem, ↓reduceIte,Nat.reduceEqDiff,Nat.reduceAdd,Nat.reduceSub,Nat.reduceLeDiff,reduceCtorEq,b3],by rw[iR];simp only[go_sem, ↓reduceIte,Nat.reduceEqDiff,Nat.reduceAdd,Nat.reduceSub,Nat.reduceLeDiff,reduceCtorEq,bu,IJ],by omega,by omega⟩,by omega,fun y hy Fg=>by
      have h1:=dv (i:=y) (n:=st_b.next) (by omega)
      have h2:=ec y hy Fg
      simp only[go_sem, ↓reduceIte,Nat.reduceEqDiff,Nat.reduceAdd,Nat.reduceSub,Nat.reduceLeDiff,reduceCtorEq,h1,h2],sd (tw @P0 @bT)⟩)
     all_goals simp only[go_sem, ↓reduceIte,Nat.reduceEqDiff,Nat.reduceAdd,Nat.reduceSub,Nat.reduceLeDiff,reduceCtorEq,o9,bg0,b4,tG,aa]
    ·rw[hpd]at q9
     have iR:kP l'++ga tl.aF (d+1)=L++[bF tl.aF d]:=by rw[ga,hpd,if_pos rfl,<-hL,List.append_assoc]
     have Gk:(L++[bF tl.aF d]).length=L.length+1:=by rw[List.length_append];rfl
     have zI:(L++[bF tl.aF d]).map aa=L.map aa++[aa (bF tl.aF d)]:=by simp
     have uT:=cQ (a:=T) (b:=u) (by omega)
     have ux:=cQ (a:=⟨115004002,s0.next+1⟩) (b:=u) (by(try dsimp only);omega)
     (repeat(first|((repeat(revert hN;revert N;apply Pn.out));refine wk (tw @o9 (tw @bg0 (tw @b4 (tw @b3 (tw @bu (tw @hd (tw @IJ (tw @tG (tw @ux (tw @Cw (tw @Gg @aa.eq_1))))))))))) ?_;(repeat(refine Pn.mk ?_;intro N hN)))|((try apply Or.inl);refine⟨_,aj.x (cK) (sd (tw @o9 (tw @bg0 (tw @b4 (tw @b3 (tw @bu (tw @hd (tw @IJ (tw @tG (tw @ux (tw @Cw (tw @Gg @aa.eq_1)))))))))))),?_⟩;refine hN _ _ ?_;clear hN N)|((try apply Or.inl);refine⟨_,aj.x (q9) (sd (tw @o9 (tw @bg0 (tw @b4 (tw @b3 (tw @bu (tw @hd (tw @IJ (tw @tG (tw @ux (tw @Cw (tw @Gg @aa.eq_1)))))))))))),?_⟩;refine hN _ _ ?_;clear hN N)))
     refine er ?_ ?_ (by(try dsimp only);exact⟨⟨⟨115011003,st_b.next+1+1+1+1⟩,by rw[iR,Gk];simp only[go_sem, ↓reduceIte,Nat.reduceEqDiff,Nat.reduceAdd,Nat.reduceSub,Nat.reduceLeDiff,reduceCtorEq],by rw[iR,zI];simp only[go_sem, ↓reduceIte,Nat.reduceEqDiff,Nat.reduceAdd,Nat.reduceSub,Nat.reduceLeDiff,reduceCtorEq,aa],by(try dsimp only);omega,by(try dsimp only);omega⟩,by omega,fun y hy Fg=>by
      have h1:=dv (i:=y) (n:=st_b.next) (by omega)
      have h2:=ec y hy Fg
      have h3:=cQ (a:=y) (b:=u) (by omega)
      simp only[go_sem, ↓reduceIte,Nat.reduceEqDiff,Nat.reduceAdd,Nat.reduceSub,Nat.reduceLeDiff,reduceCtorEq,h1,h2,h3],sd (tw @P0 (tw @uT @bT))⟩)
     all_goals simp only[go_sem, ↓reduceIte,Nat.reduceEqDiff,Nat.reduceAdd,Nat.reduceSub,Nat.reduceLeDiff,reduceCtorEq,o9,bg0,b4,tG,ux,aa]
   ·have Hi:d=4:=by omega
    subst Hi
    (try((repeat(revert hN;revert N;apply Pn.out));refine wk (tw @o9 (tw @bg0 (tw @b4 @hd))) ?_;(repeat(refine Pn.mk ?_;intro N hN))))
    exact⟨l'++[tl],by rw[List.map_append];rfl,.inr ⟨u,by rw[qf,hL];simp only[go_sem, ↓reduceIte,Nat.reduceEqDiff,Nat.reduceAdd,Nat.reduceSub,Nat.reduceLeDiff,reduceCtorEq,b3],by rw[qf,hL];exact bu,by omega,by(try dsimp only);omega⟩,by(try dsimp only);omega,ec,bT⟩
 ·rintro pre e0 s0 hp ⟨l',rfl,hout,Gj,jl,hT⟩ hK
  clear hK
  have Jb:=yP hp
  have Pg:=hp.length_eq
  simp only[List.length_map]at Pg
  have An:=hF.so
  rcases hout with⟨Aq,e3⟩|⟨o,e3,og,on,ov⟩
  ·exfalso
   subst Aq
   exact h0 (List.eq_nil_of_length_eq_zero Pg.symm)
  have hq:∀x,x∈qs↔x∈kP l':=fun x=>by
   rw[hm,tE,tE]
   constructor<;>(rintro⟨t,ht,h⟩;exact⟨t,by first|exact(Jb t).1 ht|exact(Jb t).2 ht,h⟩)
  have Ob:kP l'≠[]:=by
   intro e
   cases l' with
   |nil=>exact h0 (List.eq_nil_of_length_eq_zero Pg.symm)
   |cons t r=>
    have:t.aF∈kP (t::r):=tE.2 ⟨t,by simp,.inl rfl⟩
    rw[e]at this;cases this
  have I3:=te l'
  (try((repeat(revert hN;revert N;apply Pn.out));refine wk (tw @zo.eq_1 (tw @zq.eq_1 @e3)) ?_;(repeat(refine Pn.mk ?_;intro N hN))))
  refine .inr (aU _ _ _ _ _ (fun r σ1 hq=>?_) (wK (kP l') qs (by omega) Ob hR hq ⟨s0.get,_⟩ o (by(try dsimp only);omega) og))
  obtain⟨g1,x1⟩:=σ1
  obtain⟨o2,X,rfl,q1,q2,q3,q4⟩:=hq
  (try dsimp only at q1 q2 q3 q4)
  refine hN _ _ ?_
  clear hN N
  (try((repeat(revert hN;revert N;apply Pn.out));refine wk (tw @zo.eq_1 @zq.eq_1) ?_;(repeat(refine Pn.mk ?_;intro N hN))))
  exact gD (.inl rfl) (vs:=[.own o2 0 qs.length]) (by rw[zq];simp only[eY,gO,go_sem, ↓reduceIte,Nat.reduceEqDiff,Nat.reduceAdd,Nat.reduceSub,Nat.reduceLeDiff,reduceCtorEq]) ⟨o2,X,rfl,q1,by omega,by(try dsimp only);omega,by(try dsimp only);omega,fun y hy Fg=>(q4 y (by omega)).trans (jl y hy Fg),(q4 T (by have:=h.tv;omega)).trans hT⟩
end Go.Proofs.YtgoelphibofcmaaGreat.V

namespace Go.Proofs.YtgoelphibofcmaaGreat.V
open Go.RowKit
attribute [local irreducible] dI wpOps ib Call
attribute [local go_sem] aJ gu eW gR gQ cE upd cw K.av cY AV.cells AV.cell rowOf rowsOf part ld rowAt bB cr dY eG jq bP dq eT gP fx dE eK dn dm eu ew bU bp db bR de dc eI eL eJ da cm dp eH bQ aO di cI jo bE cU bV aY du aV ea AV.undef bG bJ eA eE ei ep cJ eR eV cG eO eM dh dj List.getD_cons_zero List.getD_cons_succ List.getD_nil List.all_cons List.all_nil Bool.and_true Bool.true_and Bool.and_self Bool.not_true Bool.not_false Option.map_some Option.map_none Option.bind_some Option.bind_none List.length_cons List.length_nil List.take_succ_cons List.take_zero List.take_nil List.drop_succ_cons List.drop_zero List.drop_nil List.head?_cons List.map_cons List.map_nil List.getElem?_cons_zero List.getElem?_cons_succ List.cons_append List.nil_append List.append_nil List.length_map List.set_cons_zero List.set_cons_succ Nat.reduceMul eq_self Int.toNat_natCast Int.natCast_nonneg and_self true_and and_true decide_true decide_false Bool.false_eq_true Nat.zero_add Nat.add_zero List.contains_cons List.contains_nil Bool.or_false Bool.false_or beq_self_eq_true Nat.reduceBEq ne_eq not_true_eq_false not_false_eq_true Id.mk.injEq false_and and_false Nat.reduceLT Int.reduceLE Int.reduceLT Int.reduceToNat Int.reduceNeg Int.reduceAdd Nat.le_refl List.length_append beq_true beq_false Bool.not_eq_eq_eq_not or_false false_or eh ao aq aK br bI cC bc bz aQ bt cX cj
noncomputable def e8 (s:aC) (l:List ae) (x:ai):Bool:=decide (0<=fG l x)&&decide (fG s.aX.ah x=fG l x)
theorem EV:NT aa (fun c=>.agg (aa c)) 2 true:=⟨fun _=>rfl,fun _=>rfl,fun x g=>by simp only[aa,ao,aq,bz,aK,Option.map_some]⟩
theorem Bv (s:aC) (hS:jw s.aB s.aX.ah) (l:List ae) (hA:gK l) (x:ai):aj Tryz.prog 116 [.agg (aa x),.bK [.sl (l.map ad)],.bK (aw s)] (.bool (e8 s l x)):=by
 refine aj.body ej rfl fun hl n0=>?_
 clear hl
 have h1:=Jo l x hA.FQ (by have:=hA.so;omega)
 have h2:=Jo s.aX.ah x hS.1.FQ (by have:=hS.1.so;omega)
 by_cases h0:0<=fG l x
 ·(repeat(first|((repeat(revert hN;revert N;apply Pn.out));refine wk (tw @h0 (tw @aw.eq_1 @aa.eq_1)) ?_;(repeat(refine Pn.mk ?_;intro N hN)))|((try apply Or.inl);refine⟨_,aj.x (h1) (sd (tw @h0 (tw @aw.eq_1 @aa.eq_1))),?_⟩;refine hN _ _ ?_;clear hN N)|((try apply Or.inl);refine⟨_,aj.x (h2) (sd (tw @h0 (tw @aw.eq_1 @aa.eq_1))),?_⟩;refine hN _ _ ?_;clear hN N)))
  exact aI (b:=decide (fG s.aX.ah x=fG l x)) (.inl rfl) (sd @Nat.zero_add) (by simp[e8,h0])
 ·(repeat(first|((repeat(revert hN;revert N;apply Pn.out));refine wk (tw @h0 (tw @aw.eq_1 @aa.eq_1)) ?_;(repeat(refine Pn.mk ?_;intro N hN)))|((try apply Or.inl);refine⟨_,aj.x (h1) (sd (tw @h0 (tw @aw.eq_1 @aa.eq_1))),?_⟩;refine hN _ _ ?_;clear hN N)|((try apply Or.inl);refine⟨_,aj.x (h2) (sd (tw @h0 (tw @aw.eq_1 @aa.eq_1))),?_⟩;refine hN _ _ ?_;clear hN N)))
  exact aI (b:=false) (.inl rfl) (sd @Nat.zero_add) (by simp[e8,h0])
theorem Fh (s:aC) (hS:jw s.aB s.aX.ah) (l:List ae) (hA:gK l) (ps:List ai) (hl:ps.length<=1048576):aj Tryz.prog 171 [.sl (ps.map aa),.fn 116 [.bK [.sl (l.map ad)],.bK (aw s)]] (.int .i64 (ik (e8 s l) ps)):=
 nQ EV (show np Tryz.prog 171=some (pM 171 2 true) by kernel_rfl) ps hl 116 _ _ (fun x _=>Bv s hS l hA x) fun g=>by simp only[ao,aq,aQ,Option.map_some]
def eb (p:ai->Bool) (l:List ai):List ai:=l.filter fun x=> !p x
theorem Fq (p:ai->Bool) (l:List ai):(eb p l).length<=l.length:=List.length_filter_le _ _
theorem pO {p:ai->Bool} {l:List ai} {j:Nat} (hj:j<l.length):eb p (l.take (j+1))=eb p (l.take j)++if p l[j]=true then[]else[l[j]]:=by
 unfold eb
 rw[List.take_succ_eq_append_getElem hj,List.filter_append]
 congr 1
 cases h:p l[j]<;>simp[h]
theorem uI {p:ai->Bool} {l:List ai} (h:∀b∈l,p b=false):eb p l=l:=by
 unfold eb
 rw[List.filter_eq_self]
 intro b hb
 rw[h b hb];rfl
structure Gf (p:ai->Bool) (bs:List ai) (j:Nat) (R:List ai):Prop where
 len:R.length=bs.length
 pre:R.take (eb p (bs.take j)).length=eb p (bs.take j)
 post:∀x,j<=x->R[x]? =bs[x]?
 lt:(eb p (bs.take j)).length<j
theorem Gf.start {p:ai->Bool} {bs:List ai} {i:Nat} (hi:i<bs.length) (hw:p bs[i]=true) (hp:∀x (h:x<i),p bs[x]=false):Gf p bs (i+1) bs/\(eb p (bs.take (i+1))).length=i:=by
 have h1:eb p (bs.take i)=bs.take i:=uI fun b hb=>by
  obtain⟨x,hx,rfl⟩:=List.getElem_of_mem hb
  rw[List.length_take]at hx
  rw[List.getElem_take]
  exact hp x (by omega)
 have h2:eb p (bs.take (i+1))=bs.take i:=by rw[pO hi,if_pos hw,List.append_nil,h1]
 have h3:(bs.take i).length=i:=by rw[List.length_take];omega
 exact⟨⟨rfl,by rw[h2,h3],fun _ _=>rfl,by rw[h2,h3];omega⟩,by rw[h2,h3]⟩
theorem Gf.NA {p:ai->Bool} {bs R:List ai} {j:Nat} (h:Gf p bs j R) (hj:j<bs.length) (hw:p bs[j]=true):Gf p bs (j+1) R/\(eb p (bs.take (j+1))).length=(eb p (bs.take j)).length:=by
 have h2:eb p (bs.take (j+1))=eb p (bs.take j):=by rw[pO hj,if_pos hw,List.append_nil]
 exact⟨⟨h.len,by rw[h2];exact h.pre,fun x hx=>h.post x (by omega),by rw[h2];have:=h.lt;omega⟩,by rw[h2]⟩
theorem Gf.oZ {p:ai->Bool} {bs R:List ai} {j:Nat} (h:Gf p bs j R) (hj:j<bs.length) (hw:p bs[j]=false):Gf p bs (j+1) (R.set (eb p (bs.take j)).length bs[j])/\(eb p (bs.take (j+1))).length=(eb p (bs.take j)).length+1:=by
 have h2:eb p (bs.take (j+1))=eb p (bs.take j)++[bs[j]]:=by rw[pO hj,hw];rfl
 have dy:=h.lt
 have hlen:=h.len
 have oX:=h.pre
 generalize hc:(eb p (bs.take j)).length=c at *
 refine⟨⟨by rw[List.length_set];exact hlen,?_,fun x hx=>?_,by rw[h2,List.length_append,hc];simp;omega⟩,by rw[h2,List.length_append,hc];rfl⟩
 ·rw[h2,List.length_append,hc,List.length_singleton,List.take_succ_eq_append_getElem (by rw[List.length_set];omega),List.getElem_set_self,List.take_set_of_le (Nat.le_refl _),oX]
 ·rw[List.getElem?_set_ne (by omega)];exact h.post x (by omega)
theorem Gf.at_ {p:ai->Bool} {bs R:List ai} {j:Nat} (h:Gf p bs j R) (hj:j<bs.length):(R.map aa)[j]? =some (aa bs[j]):=by
 rw[List.getElem?_map,h.post j (Nat.le_refl j),List.getElem?_eq_getElem hj];rfl
theorem Ca {p:ai->Bool} {bs:List ai} (h:¬0<=ik p bs):∀b∈bs,p b=false:=by
 intro b hb
 unfold ik at h
 split at h
 ·omega
 ·rename_i h1
  rw[List.findIdx_lt_length]at h1
  cases hp:p b
  ·rfl
  ·exact absurd ⟨b,hb,hp⟩ h1
theorem Cb {p:ai->Bool} {bs:List ai} (h:0<=ik p bs):∃i,∃hi:i<bs.length,ik p bs=(i:Int)/\p bs[i]=true/\∀x (hx:x<i),p (bs[x]'(by omega))=false:=by
 unfold ik at h ⊢
 split
 ·rename_i h1
  exact⟨bs.findIdx p,h1,rfl,List.findIdx_getElem,fun x hx=>by simpa using List.not_of_lt_findIdx hx⟩
 ·rename_i h1;rw[if_neg h1]at h;omega
end Go.Proofs.YtgoelphibofcmaaGreat.V

namespace Go.Proofs.YtgoelphibofcmaaGreat.V
open Go.RowKit
attribute [local irreducible] dI wpOps ib Call
attribute [local go_sem] aJ gu eW gR gQ cE upd cw K.av cY AV.cells AV.cell rowOf rowsOf part ld rowAt bB cr dY eG jq bP dq eT gP fx dE eK dn dm eu ew bU bp db bR de dc eI eL eJ da cm dp eH bQ aO di cI jo bE cU bV aY du aV ea AV.undef bG bJ eA eE ei ep cJ eR eV cG eO eM dh dj List.getD_cons_zero List.getD_cons_succ List.getD_nil List.all_cons List.all_nil Bool.and_true Bool.true_and Bool.and_self Bool.not_true Bool.not_false Option.map_some Option.map_none Option.bind_some Option.bind_none List.length_cons List.length_nil List.take_succ_cons List.take_zero List.take_nil List.drop_succ_cons List.drop_zero List.drop_nil List.head?_cons List.map_cons List.map_nil List.getElem?_cons_zero List.getElem?_cons_succ List.cons_append List.nil_append List.append_nil List.length_map List.set_cons_zero List.set_cons_succ Nat.reduceMul eq_self Int.toNat_natCast Int.natCast_nonneg and_self true_and and_true decide_true decide_false Bool.false_eq_true Nat.zero_add Nat.add_zero List.contains_cons List.contains_nil Bool.or_false Bool.false_or beq_self_eq_true Nat.reduceBEq ne_eq not_true_eq_false not_false_eq_true Id.mk.injEq false_and and_false Nat.reduceLT Int.reduceLE Int.reduceLT Int.reduceToNat Int.reduceNeg Int.reduceAdd Nat.le_refl List.length_append beq_true beq_false Bool.not_eq_eq_eq_not or_false false_or eh ao aq aK br bI cC bc bz aQ bt cX cj
structure mL (n:Nat) (px:Nat->Option Nat) (L:Nat->Nat):Prop where
 top:∀k,k<n->px k=none->L k=k
 up:∀k j,k<n->px k=some j->j<k/\L j=L k
theorem mL.root {n:Nat} {px:Nat->Option Nat} {L:Nat->Nat} (h:mL n px L) (hL:js L) {k:Nat} (hk:k<n) (hr:L k=k):px k=none:=by
 rcases hp:px k with _|j
 ·rfl
 ·obtain⟨h1,h2⟩:=h.up k j hk hp
  have:=hL.le j
  omega
theorem mL.start (n:Nat):mL n (fun _=>none) id:=⟨fun _ _ _=>rfl,fun _ _ _ h=>by cases h⟩
theorem mL.join {n:Nat} {px:Nat->Option Nat} {L:Nat->Nat} (h:mL n px L) (hL:js L) (b:PB) (dy:min (L b.a) (L b.b)<max (L b.a) (L b.b)):mL n (fun k=>if k=max (L b.a) (L b.b)then some (min (L b.a) (L b.b))else px k) (ef L b):=by
 have ha:=hL.idem b.a
 have hb:=hL.idem b.b
 have yv:L (min (L b.a) (L b.b))=min (L b.a) (L b.b):=by
  rcases Nat.le_total (L b.a) (L b.b)with h|h
  ·rw[Nat.min_eq_left h,ha]
  ·rw[Nat.min_eq_right h,hb]
 have Pj:L (max (L b.a) (L b.b))=max (L b.a) (L b.b):=by
  rcases Nat.le_total (L b.a) (L b.b)with h|h
  ·rw[Nat.max_eq_right h,hb]
  ·rw[Nat.max_eq_left h,ha]
 unfold ef
 generalize min (L b.a) (L b.b)=lo at *
 generalize max (L b.a) (L b.b)=hi at *
 refine⟨fun k hk hp=>?_,fun k j hk hp=>?_⟩
 ·by_cases I9:k=hi
  ·rw[if_pos I9]at hp;cases hp
  ·rw[if_neg I9]at hp
   have:=h.top k hk hp
   rw[if_neg (by omega)];exact this
 ·by_cases I9:k=hi
  ·rw[if_pos I9]at hp
   cases hp
   subst I9
   exact⟨dy,by rw[if_neg (by omega),if_pos Pj,yv]⟩
  ·rw[if_neg I9]at hp
   obtain⟨h1,h2⟩:=h.up k j hk hp
   exact⟨h1,by rw[h2]⟩
theorem yG {L:Nat->Nat} {b:PB} (h:L b.a=L b.b):ef L b=L:=by
 funext k
 unfold ef
 rw[h,Nat.max_self,Nat.min_self]
 split
 ·rename_i h;exact h.symm
 ·rfl
def rD (G:Nat->Id) (px:Nat->Option Nat) (k:Nat):List AV:=[match px k with|none=>.gx|some j=>.ptr (G j) 0 0,.int .i64 (k:Int)]
def sS (g:Rows) (G:Nat->Id) (n:Nat) (px:Nat->Option Nat):Prop:=∀k,k<n->g (G k)=some ⟨true,2,[rD G px k]⟩
theorem sS.frame {g g':Rows} {G:Nat->Id} {n:Nat} {px:Nat->Option Nat} (h:sS g G n px) (hf:∀k,k<n->g' (G k)=g (G k)):sS g' G n px:=fun k hk=>(hf k hk).trans (h k hk)
theorem k9 {G:Nat->Id} {px:Nat->Option Nat} {k:Nat} (h:px k=none):rD G px k=[.gx,.int .i64 (k:Int)]:=by rw[rD,h]
theorem sD {G:Nat->Id} {px:Nat->Option Nat} {k j:Nat} (h:px k=some j):rD G px k=[.ptr (G j) 0 0,.int .i64 (k:Int)]:=by rw[rD,h]
theorem yd (G:Nat->Id) (n:Nat) (px:Nat->Option Nat) (L:Nat->Nat) (h:mL n px L) (k:Nat) (hk:k<n) (σ:ar) (hG:sS σ.get G n px):
  Call Tryz.prog 262 [.ptr (G k) 0 0] σ fun r σ'=>r=.ptr (G (L k)) 0 0/\σ'.get=σ.get/\σ.next<=σ'.next:=by
 refine gT ej rfl fun hl=>?_
 clear hl
 (try((repeat(revert hN;revert N;apply Pn.out));refine wk @Nat.zero_add ?_;(repeat(refine Pn.mk ?_;intro N hN))))
 refine aH (fun m env st=>∃j:Nat,m=j/\j<n/\env 0=.ptr (G j) 0 0/\L j=L k/\st.get=σ.get/\σ.next<=st.next) k ⟨k,rfl,hk,sd @Nat.zero_add,rfl,by(try dsimp only),by(try dsimp only);omega⟩ ?_
 rintro m env_b st_b ⟨j,rfl,hj,b0,hLj,hg,hle⟩ ec
 clear ec
 have fy:=hG m hj
 rcases hp:px m with _|j
 ·rw[k9 hp]at fy
  (try((repeat(revert hN;revert N;apply Pn.out));refine wk (tw @b0 (tw @hg @fy)) ?_;(repeat(refine Pn.mk ?_;intro N hN))))
  exact gD (.inl rfl) (vs:=[.ptr (G m) 0 0]) (sd @Nat.zero_add) ⟨by rw[<-hLj,h.top m hj hp];rfl,by first|trivial|rfl|exact hg,by(try dsimp only);omega⟩
 ·rw[sD hp]at fy
  obtain⟨h1,h2⟩:=h.up m j hj hp
  (try((repeat(revert hN;revert N;apply Pn.out));refine wk (tw @b0 (tw @hg @fy)) ?_;(repeat(refine Pn.mk ?_;intro N hN))))
  exact⟨j,h1,j,rfl,by omega,sd @Nat.zero_add,by omega,by first|trivial|rfl|exact hg,by(try dsimp only);omega⟩
end Go.Proofs.YtgoelphibofcmaaGreat.V

namespace Go.Proofs.YtgoelphibofcmaaGreat.V
open Go.RowKit
attribute [local irreducible] dI wpOps ib Call
attribute [local go_sem] aJ gu eW gR gQ cE upd cw K.av cY AV.cells AV.cell rowOf rowsOf part ld rowAt bB cr dY eG jq bP dq eT gP fx dE eK dn dm eu ew bU bp db bR de dc eI eL eJ da cm dp eH bQ aO di cI jo bE cU bV aY du aV ea AV.undef bG bJ eA eE ei ep cJ eR eV cG eO eM dh dj List.getD_cons_zero List.getD_cons_succ List.getD_nil List.all_cons List.all_nil Bool.and_true Bool.true_and Bool.and_self Bool.not_true Bool.not_false Option.map_some Option.map_none Option.bind_some Option.bind_none List.length_cons List.length_nil List.take_succ_cons List.take_zero List.take_nil List.drop_succ_cons List.drop_zero List.drop_nil List.head?_cons List.map_cons List.map_nil List.getElem?_cons_zero List.getElem?_cons_succ List.cons_append List.nil_append List.append_nil List.length_map List.set_cons_zero List.set_cons_succ eq_self Int.toNat_natCast Int.natCast_nonneg and_self true_and and_true decide_true decide_false Bool.false_eq_true Nat.zero_add Nat.add_zero List.contains_cons List.contains_nil Bool.or_false Bool.false_or beq_self_eq_true ne_eq not_true_eq_false not_false_eq_true Id.mk.injEq false_and and_false Nat.le_refl List.length_append beq_true beq_false Bool.not_eq_eq_eq_not or_false false_or eh ao aq aK br bI cC bc bz aQ bt cX cj
abbrev mI:MK:=⟨false,[.tI]⟩
def rM (l:List (Nat×Nat)):List (List AV):=l.map fun p=>[.int .i64 (p.1:Int),.int .i64 (p.2:Int)]
theorem AE (r:Nat):∀(l:List (Nat×Nat)) (i:Nat),((∀p∈l,p.1≠r)->fP mI [.int .i64 (r:Int)] (rM l) i=some none)/\(∀j v,l[j]? =some (r,v)->(∀x y,x<j->l[x]? =some y->y.1≠r)->fP mI [.int .i64 (r:Int)] (rM l) i=some (some (i+j)))
 |[],i=>⟨fun _=>rfl,fun j v h=>by simp at h⟩
 |p::l,i=>by
  obtain⟨h1,h2⟩:=AE r l (i+1)
  by_cases h:p.1=r
  ·refine⟨fun hp=>absurd h (hp p (by simp)),fun j v hj hf=>?_⟩
   have hj0:j=0:=by
    rcases Nat.eq_zero_or_pos j with h0|h0
    ·exact h0
    ·exact absurd h (hf 0 p h0 (by simp))
   subst hj0
   simp[rM,fP,fx,gP,MK.ks,h]
  ·have hd:¬((r:Int)=(p.1:Int)):=by omega
   have s7:¬r=p.1:=fun he=>h he.symm
   have step:fP mI [.int .i64 (r:Int)] (rM (p::l)) i=fP mI [.int .i64 (r:Int)] (rM l) (i+1):=by
    unfold rM
    simp[fP,MK.ks,fx,gP,hd,s7,h]
   rw[step]
   refine⟨fun hp=>h1 fun q hq=>hp q (by simp[hq]),fun j v hj hf=>?_⟩
   cases j with
   |zero=>simp at hj;rw[hj]at h;exact absurd rfl h
   |succ j=>
    rw[h2 j v (by simpa using hj) fun x y hx hy=>hf (x+1) y (by omega) (by simpa using hy)]
    congr 2;omega
theorem xq {r:Nat} {l:List (Nat×Nat)}:((∀p∈l,p.1≠r)->fF mI (.int .i64 (r:Int)) (rM l)=some none)/\(∀j v,l[j]? =some (r,v)->(∀x y,x<j->l[x]? =some y->y.1≠r)->fF mI (.int .i64 (r:Int)) (rM l)=some (some j)):=by
 have e:fF mI (.int .i64 (r:Int)) (rM l)=fP mI [.int .i64 (r:Int)] (rM l) 0:=by
  unfold fF
  rw[if_pos ⟨rfl,rfl,rfl⟩];rfl
 obtain⟨h1,h2⟩:=AE r l 0
 rw[e]
 exact⟨h1,fun j v hj hf=>by rw[h2 j v hj hf,Nat.zero_add]⟩
def ku (k:Nat) (L:Nat->Nat):List (List AV):=rM (leads k L).zipIdx
theorem CO {k:Nat} {L:Nat->Nat} (h:L k=k):ku (k+1) L=ku k L++[[.int .i64 (k:Int),.int .i64 ((leads k L).length:Int)]]:=by
 unfold ku
 rw[gq,if_pos h,List.zipIdx_append]
 simp[rM]
theorem CN {k:Nat} {L:Nat->Nat} (h:L k≠k):ku (k+1) L=ku k L:=by
 unfold ku
 rw[gq,if_neg h,List.append_nil]
theorem FC {k:Nat} {L:Nat->Nat} (h:L k=k):fF mI (.int .i64 (k:Int)) (ku k L)=some none:=by
 refine xq.1 fun p hp=>?_
 have:=List.fst_mem_of_mem_zipIdx hp
 have:=(xz.1 this).1
 omega
theorem xx {n:Nat} {L:Nat->Nat} {x y:Nat} (hx:x<(leads n L).length) (hy:y<(leads n L).length) (h:(leads n L)[x]=(leads n L)[y]):x=y:=by
 have hp:=List.pairwise_iff_getElem.1 (sI n L)
 rcases Nat.lt_trichotomy x y with dy|he|dy
 ·exact absurd h (hp x y hx hy dy)
 ·exact he
 ·exact absurd h.symm (hp y x hy hx dy)
theorem xw {k:Nat} {L:Nat->Nat} (hL:js L) (h:L k≠k):fF mI (.int .i64 (L k:Int)) (ku k L)=some (some (bf L k))/\(ku k L)[bf L k]? =some [.int .i64 (L k:Int),.int .i64 (bf L k:Int)]/\bf L k<(leads k L).length:=by
 have dy:L k<k:=Nat.lt_of_le_of_ne (hL.le k) h
 have hn:bf L (L k)=bf L k:=by rw[bf,hL.idem,bf]
 have hg:=oz hL dy
 rw[hn,hL.idem]at hg
 have hl:bf L k<(leads k L).length:=(List.getElem?_eq_some_iff.1 hg).1
 have hz:(leads k L).zipIdx[bf L k]? =some (L k,bf L k):=by simp[List.getElem?_zipIdx,hg]
 refine⟨xq.2 _ _ hz fun x y hx hy=>?_,by unfold ku rM;rw[List.getElem?_map,hz];rfl,hl⟩
 intro he
 rw[List.getElem?_zipIdx]at hy
 have Om:x<(leads k L).length:=by omega
 rw[List.getElem?_eq_getElem Om]at hy
 simp at hy
 rw[<-hy]at he
 simp at he
 have e2:(leads k L)[bf L k]=L k:=(List.getElem?_eq_some_iff.1 hg).2
 have:=xx Om hl (he.trans e2.symm)
 omega
def jy (k:Nat) (L:Nat->Nat):List (List Nat):=(leads k L).map (members k L)
theorem pG (k:Nat) (L:Nat->Nat):(jy k L).length=(leads k L).length:=by simp[jy]
theorem Cl {k:Nat} {L:Nat->Nat} (hL:js L) (h:L k=k):jy (k+1) L=jy k L++[[k]]:=by
 unfold jy
 rw[gq,if_pos h,List.map_append,List.map_cons,List.map_nil,je,if_pos h,mu hL (Nat.le_refl k),List.nil_append]
 congr 1
 refine List.map_congr_left fun r hr=>?_
 have:=(xz.1 hr).1
 rw[je,if_neg (by omega),List.append_nil]
theorem Cm {k:Nat} {L:Nat->Nat} (hL:js L) (h:L k≠k):(jy k L)[bf L k]? =some (members k L (L k))/\jy (k+1) L=(jy k L).set (bf L k) (members k L (L k)++[k]):=by
 obtain⟨_,_,hl⟩:=xw hL h
 have dy:L k<k:=Nat.lt_of_le_of_ne (hL.le k) h
 have hg:=oz hL dy
 have hn:bf L (L k)=bf L k:=by rw[bf,hL.idem,bf]
 rw[hn,hL.idem]at hg
 refine⟨by unfold jy;rw[List.getElem?_map,hg];rfl,?_⟩
 unfold jy
 rw[gq,if_neg h,List.append_nil]
 refine List.ext_getElem? fun i=>?_
 rw[List.getElem?_set,List.getElem?_map,List.length_map]
 by_cases hi:bf L k=i
 ·subst hi
  rw[if_pos rfl,if_pos hl,hg,Option.map_some,je,if_pos rfl]
 ·rw[if_neg hi,List.getElem?_map]
  rcases hr:(leads k L)[i]? with _|r
  ·rfl
  ·rw[Option.map_some,Option.map_some,je,if_neg,List.append_nil]
   rintro rfl
   obtain⟨lv,he⟩:=List.getElem?_eq_some_iff.1 hr
   have e2:(leads k L)[bf L k]=L k:=(List.getElem?_eq_some_iff.1 hg).2
   exact hi (xx hl lv (e2.trans he.symm))
theorem AR (k:Nat) (L:Nat->Nat) (r:Nat):(members k L r).length<=k:=by
 have:=List.length_filter_le (fun x=>L x==r) (List.range k)
 simpa[members]using this
def Ey (g:Rows) (o:Id) (L:List (List Nat)) (nx:Nat):Prop:=∃rows ids,g o=some ⟨true,1,rows⟩/\eQ NV g rows L ids/\ids.Nodup/\(∀i∈ids,i.site=240026008/\i.aW<nx)/\o.site=240025002/\o.aW<nx
theorem Ey.frame {g g':Rows} {o:Id} {L:List (List Nat)} {nx tF:Nat} (h:Ey g o L nx) (hn:nx<=tF) (hf:∀i:Id,(i.site=240026008∨i.site=240025002)->i.aW<nx->g' i=g i):Ey g' o L tF:=by
 obtain⟨rows,ids,h1,h2,h3,h4,h5,h6⟩:=h
 exact⟨rows,ids,(hf o (.inr h5) h6).trans h1,h2.frame Kf fun i hi=>hf i (.inl (h4 i hi).1) (h4 i hi).2,h3,fun i hi=>⟨(h4 i hi).1,by have:=(h4 i hi).2;omega⟩,h5,by omega⟩
theorem JE {g':Rows} {v v' tF j:Nat} (h1:g' ⟨240025002,v⟩=some ⟨true,1,[[.own ⟨240026008,v'⟩ 0 1]]⟩) (h2:g' ⟨240026008,v'⟩=some ⟨true,1,[eN j]⟩) (hv:v<tF) (ns:v'<tF):Ey g' ⟨240025002,v⟩ [[j]] tF:=
 ⟨_,[⟨240026008,v'⟩],h1,.one ⟨_,rfl,h2,rfl⟩,by simp,fun i hi=>by rw[List.mem_singleton.1 hi];exact⟨rfl,ns⟩,rfl,hv⟩
theorem Ey.new {g:Rows} {o:Id} {L:List (List Nat)} {nx:Nat} (h:Ey g o L nx) (j:Nat):∃rows,g o=some ⟨true,1,rows⟩/\rows.length=L.length/\∀(g':Rows) (v v' tF:Nat),nx<=v'->v<tF->v'<tF->g' ⟨240025002,v⟩=some ⟨true,1,rows++[[.own ⟨240026008,v'⟩ 0 1]]⟩->g' ⟨240026008,v'⟩=some ⟨true,1,[eN j]⟩->(∀i:Id,i.site=240026008->i.aW<nx->g' i=g i)->Ey g' ⟨240025002,v⟩ (L++[[j]]) tF:=by
 obtain⟨rows,ids,h1,h2,h3,h4,h5,h6⟩:=h
 refine⟨rows,h1,h2.len,fun g' v v' tF hv xl MY q1 q2 q3=>⟨_,ids++[⟨240026008,v'⟩],q1,(h2.frame Kf fun i hi=>q3 i (h4 i hi).1 (h4 i hi).2).app (.one ⟨_,rfl,q2,rfl⟩),?_,fun i hi=>?_,rfl,xl⟩⟩
 ·refine List.nodup_append.2 ⟨h3,by simp,fun a ha b hb sE=>?_⟩
  rw[List.mem_singleton.1 hb]at sE
  have:=(h4 a ha).2
  rw[sE]at this
  simp only at this
  omega
 ·rcases List.mem_append.1 hi with hi|hi
  ·have:=h4 i hi;exact⟨this.1,by omega⟩
  ·rw[List.mem_singleton.1 hi];exact⟨rfl,MY⟩
theorem Ey.add {g:Rows} {o:Id} {L:List (List Nat)} {nx k:Nat} {La:List Nat} (h:Ey g o L nx) (hk:L[k]? =some La) (j:Nat):∃rows id,g o=some ⟨true,1,rows⟩/\rows.length=L.length/\rows[k]? =some [.own id 0 La.length]/\g id=some ⟨true,1,La.map eN⟩/\id.site=240026008/\id.aW<nx/\∀(g':Rows) (v' tF:Nat),nx<=v'->v'<tF->g' o=some ⟨true,1,rows.set k [.own ⟨240026008,v'⟩ 0 (La.length+1)]⟩->g' ⟨240026008,v'⟩=some ⟨true,1,La.map eN++[[.int .i64 (j:Int)]]⟩->(∀i:Id,i.site=240026008->i.aW<nx->(i=id)=False->g' i=g i)->Ey g' o (L.set k (La++[j])) tF:=by
 obtain⟨rows,ids,h1,h2,h3,h4,h5,h6⟩:=h
 have kQ:k<L.length:=(List.getElem?_eq_some_iff.1 hk).1
 have RK:=ko hk kQ
 obtain⟨cs,ic,cR,N2,Pd,uD⟩:=h2.PR Kf h3 k kQ
 rw[RK]at N2
 obtain⟨id,rfl,q1,rfl⟩:=N2
 have hid:=h4 id (Pd id (by simp))
 refine⟨rows,id,h1,h2.len,cR,q1,hid.1,hid.2,fun g' v' tF hv xl r1 r2 r3=>?_⟩
 obtain⟨CD,s1,s2,s3⟩:=uD g' [.own ⟨240026008,v'⟩ 0 (La.length+1)] (La++[j]) [⟨240026008,v'⟩] ⟨_,by simp,by rw[r2];simp[eN],rfl⟩ (fun i hi QQ=>r3 i (h4 i hi).1 (h4 i hi).2 (by
  simp only[eq_iff_iff,iff_false];rintro rfl;exact QQ (by simp))) (by simp) fun i hi hc=>by
   rw[List.mem_singleton.1 hi]at hc
   have:=(h4 _ hc).2
   simp only at this
   omega
 refine⟨_,CD,r1,s1,s2,fun i hi=>?_,h5,by omega⟩
 rcases s3 i hi with h|h
 ·rw[List.mem_singleton.1 h];exact⟨rfl,xl⟩
 ·have:=h4 i h;exact⟨this.1,by omega⟩
def lE (G:Nat->Id) (n k:Nat):List (List AV):=(List.range n).map fun i=>[if i<k then .ptr (G i) 0 0 else .gx]
theorem lX (G:Nat->Id) (n k:Nat):(lE G n k).length=n:=by simp[lE]
theorem F2 (G:Nat->Id) (n:Nat):List.replicate n [AV.gx]=lE G n 0:=by
 refine List.ext_getElem? fun i=>?_
 by_cases h:i<n
 ·rw[List.getElem?_replicate,if_pos h];simp[lE,h]
 ·rw[List.getElem?_eq_none (by simp;omega),List.getElem?_eq_none (by rw[lX];omega)]
theorem vK {G:Nat->Id} {n i:Nat} (h:i<n):(lE G n n)[i]? =some [.ptr (G i) 0 0]:=by simp[lE,h]
theorem Iy {G:Nat->Id} {n k:Nat} (h:k<n):(lE G n k).set k [.ptr (G k) 0 0]=lE G n (k+1):=by
 refine List.ext_getElem? fun i=>?_
 rw[List.getElem?_set,lX]
 by_cases hi:k=i
 ·subst hi;rw[if_pos rfl,if_pos h];simp[lE,h]
 ·rw[if_neg hi]
  by_cases fA:i<n
  ·simp only[lE,List.getElem?_map,List.getElem?_range fA,Option.map_some]
   by_cases xh:i<k
   ·rw[if_pos xh,if_pos (by omega)]
   ·rw[if_neg xh,if_neg (by omega)]
  ·rw[List.getElem?_eq_none (by rw[lX];omega),List.getElem?_eq_none (by rw[lX];omega)]
end Go.Proofs.YtgoelphibofcmaaGreat.V

namespace Go.Proofs.YtgoelphibofcmaaGreat.V
open Go.RowKit
attribute [local irreducible] dI wpOps ib Call
attribute [local go_sem] aJ gu eW gR gQ cE upd cw K.av cY AV.cells AV.cell rowOf rowsOf part ld rowAt bB cr dY eG jq bP dq eT gP fx dE eK dn dm eu ew bU bp db bR de dc eI eL eJ da cm dp eH bQ aO di cI jo bE cU bV aY du aV ea AV.undef bG bJ eA eE ei ep cJ eR eV cG eO eM dh dj List.getD_cons_zero List.getD_cons_succ List.getD_nil List.all_cons List.all_nil Bool.and_true Bool.true_and Bool.and_self Bool.not_true Bool.not_false Option.map_some Option.map_none Option.bind_some Option.bind_none List.length_cons List.length_nil List.take_succ_cons List.take_zero List.take_nil List.drop_succ_cons List.drop_zero List.drop_nil List.head?_cons List.map_cons List.map_nil List.getElem?_cons_zero List.getElem?_cons_succ List.cons_append List.nil_append List.append_nil List.length_map List.set_cons_zero List.set_cons_succ Nat.reduceMul eq_self Int.toNat_natCast Int.natCast_nonneg and_self true_and and_true decide_true decide_false Bool.false_eq_true Nat.zero_add Nat.add_zero List.contains_cons List.contains_nil Bool.or_false Bool.false_or beq_self_eq_true Nat.reduceBEq ne_eq not_true_eq_false not_false_eq_true Id.mk.injEq false_and and_false Nat.reduceLT Int.reduceLE Int.reduceLT Int.reduceToNat Int.reduceNeg Int.reduceAdd Nat.le_refl List.length_append beq_true beq_false Bool.not_eq_eq_eq_not or_false false_or eh ao aq aK br bI cC bc bz aQ bt cX cj
theorem gE {o:Id} {a:Nat} (h:o.site=a) {b v:Nat} (sE:(a==b)=false):(o=⟨b,v⟩)=False/\((⟨b,v⟩:Id)=o)=False:=by
 have h1:=zd h (v:=v) sE
 refine⟨h1,?_⟩
 simp only[eq_iff_iff,iff_false]at h1 ⊢
 exact fun h=>h1 h.symm
theorem uu (cnt:Nat) (zH:1<=cnt) (hn:cnt<=1048576) (bs:List PB) (hb:∀b∈bs,b.a<cnt/\b.b<cnt) (ml:bs.length<=1048576):aj Tryz.prog 240 [.int .i64 cnt,.sl (bs.map ay)] (.sl ((fc cnt (dQ bs)).map zD)):=by
 intro n0
 refine Gs LW rfl fun hl=>?_
 try simp only[q]
 clear hl
 have ju:(0:Int)<=(cnt:Int):=by omega
 have pc:(cnt:Int)<=((16777216:Nat):Int):=by omega
 obtain⟨G,hG⟩:∃G:Nat->Id,G=fun k=>⟨240005004,n0+3+4*k+2⟩:=⟨_,rfl⟩
 have Qp:∀k,(G k).site=240005004:=fun k=>by rw[hG]
 have RD:∀k,(G k).aW=n0+3+4*k+2:=fun k=>by rw[hG]
 have RA:∀i j,i≠j->(G i=G j)=False:=fun i j h=>by
  simp only[eq_iff_iff,iff_false]
  intro he
  have h1:=RD i
  rw[he,RD j]at h1
  omega
 have JF:∀i s v,(240005004==s)=false->(G i=⟨s,v⟩)=False:=fun i s v h=>zd (Qp i) h
 have hz:=F2 G cnt
 (try((repeat(revert hN;revert N;apply Pn.out));refine wk (tw @ju (tw @pc (tw @Int.le_refl @hz))) ?_;(repeat(refine Pn.mk ?_;intro N hN))))
 refine aH (fun n env st=>∃k:Nat,n=(cnt)-k/\k<=(cnt)/\env 21=.int .i64 (k:Int)/\st.get ⟨240001001,n0+1⟩=some ⟨true,1,lE G cnt k⟩/\(st.next=n0+3+4*k/\∀j:Nat,j<k->st.get (G j)=some ⟨true,2,[[.gx,.int .i64 (j:Int)]]⟩)) (cnt) ⟨0,by omega,by omega,sl @hz,sl @hz,⟨rfl,fun j hj=>by omega⟩⟩ ?_
 rintro n_a env_a st_a ⟨k,rfl,ale,a21,ag0,nf⟩ dt
 have a0:=dt 0 (by kernel_rfl);have a1:=dt 1 (by kernel_rfl);have a5:=dt 5 (by kernel_rfl);have LK:=dt 19 (by kernel_rfl);have a20:=dt 20 (by kernel_rfl)
 simp only[go_sem, ↓reduceIte,Nat.reduceEqDiff,Nat.reduceAdd,Nat.reduceSub,Nat.reduceLeDiff,reduceCtorEq,hz]at a0 a1 a5 LK a20
 clear dt
 obtain⟨nf,kO⟩:=nf
 by_cases hk:(k:Int)<(cnt:Int)
 ·have bY:∀{e:Env} {gg:Rows} {nx:Nat},(e 21=.int .i64 (IntKind.i64.wrap ((k:Int)+1)))->(gg ⟨240001001,n0+1⟩=some ⟨true,1,lE G cnt (k+1)⟩)->(nx=n0+3+4*(k+1)/\∀j:Nat,j<(k+1)->gg (G j)=some ⟨true,2,[[.gx,.int .i64 (j:Int)]]⟩)->∃m0,m0<(cnt)-k/\∃k:Nat,m0=(cnt)-k/\k<=(cnt)/\e 21=.int .i64 (k:Int)/\gg ⟨240001001,n0+1⟩=some ⟨true,1,lE G cnt k⟩/\(nx=n0+3+4*k/\∀j:Nat,j<k->gg (G j)=some ⟨true,2,[[.gx,.int .i64 (j:Int)]]⟩):=fun x1 x2 x3=>⟨_,by omega,k+1,rfl,by omega,(by rw[x1,ax (by omega)]),x2,x3⟩
  have eZ:k<cnt:=by omega
  have tl:=lX G cnt k
  have ev:=Iy (G:=G) eZ
  have eo:(lE G cnt k)[k]? =some [.gx]:=by simp[lE,eZ]
  have Qn:(⟨240005004,st_a.next+1+1⟩:Id)=G k:=by rw[hG,nf]
  have hGf:∀j,j<k->(G j=G k)=False:=fun j hj=>RA j k (by omega)
  have ym:∀j,(G j=(⟨240001001,n0+1⟩:Id))=False:=fun j=>JF j _ _ (by decide)
  have Co:∀j,((⟨240001001,n0+1⟩:Id)=G j)=False:=fun j=>by
   have:=ym j
   simp only[eq_iff_iff,iff_false]at this ⊢
   exact fun h=>this h.symm
  (try((repeat(revert hN;revert N;apply Pn.out));refine wk (tw @a21 (tw @ag0 (tw @a0 (tw @a1 (tw @a5 (tw @LK (tw @a20 (tw @hk (tw @tl (tw @Qn (tw @ym (tw @Co (tw @ev @eo))))))))))))) ?_;(repeat(refine Pn.mk ?_;intro N hN))))
  refine bY ?_ ?_ (by
   refine⟨by(try dsimp only)<;>omega,fun j hj=>?_⟩
   by_cases xi:j=k
   ·subst xi;simp only[go_sem, ↓reduceIte,Nat.reduceEqDiff,Nat.reduceAdd,Nat.reduceSub,Nat.reduceLeDiff,reduceCtorEq,Qn,ym,Co]
   ·have hold:=kO j (by omega)
    have fY:=hGf j (by omega)
    simp only[go_sem, ↓reduceIte,Nat.reduceEqDiff,Nat.reduceAdd,Nat.reduceSub,Nat.reduceLeDiff,reduceCtorEq,Qn,ym,Co,fY,hold])
  all_goals simp only[go_sem, ↓reduceIte,Nat.reduceEqDiff,Nat.reduceAdd,Nat.reduceSub,Nat.reduceLeDiff,reduceCtorEq,a21,ag0,a0,a1,a5,LK,a20,Qn,ym,Co,ev]
 have kQ:cnt=k:=by omega
 subst kQ
 (try((repeat(revert hN;revert N;apply Pn.out));refine wk (tw @a21 (tw @ag0 (tw @a0 (tw @a1 (tw @a5 (tw @LK (tw @a20 @hk))))))) ?_;(repeat(refine Pn.mk ?_;intro N hN))))
 refine aH (fun n env st=>∃i:Nat,n=(bs.length)-i/\i<=(bs.length)/\env 33=.int .i64 (i:Int)/\st.get ⟨240001001,n0+1⟩=some ⟨true,1,lE G cnt cnt⟩/\(n0+3+4*cnt<=st.next)/\(∃px,mL cnt px (dQ (bs.take i))/\sS st.get G cnt px)) (bs.length) ⟨0,by omega,by omega,sl (tw @a21 (tw @ag0 (tw @a0 (tw @a1 (tw @a5 (tw @LK @a20)))))),sl (tw @a21 (tw @ag0 (tw @a0 (tw @a1 (tw @a5 (tw @LK @a20)))))),(by(try dsimp only);omega),⟨fun _=>none,mL.start cnt,kO⟩⟩ ?_
 rintro n_b env_b st_b ⟨i,rfl,ble,sU,bg0,bI0,bI1⟩ ec
 have b0:=ec 0 (by kernel_rfl);have b1:=ec 1 (by kernel_rfl);have b5:=ec 5 (by kernel_rfl);have wU:=ec 31 (by kernel_rfl);have se:=ec 32 (by kernel_rfl)
 simp only[go_sem, ↓reduceIte,Nat.reduceEqDiff,Nat.reduceAdd,Nat.reduceSub,Nat.reduceLeDiff,reduceCtorEq,a21,ag0,a0,a1,a5,LK,a20]at b0 b1 b5 wU se
 clear ec
 obtain⟨px,Jc,Qo⟩:=bI1
 have tl:=lX G cnt cnt
 have OP:∀j v,(G j=(⟨240009002,v⟩:Id))=False:=fun j v=>JF j _ v (by decide)
 have ym:∀j v,(G j=(⟨240001001,v⟩:Id))=False:=fun j v=>JF j _ v (by decide)
 have Co:∀j v,((⟨240001001,v⟩:Id)=G j)=False:=fun j v=>by
  have:=ym j v
  simp only[eq_iff_iff,iff_false]at this ⊢
  exact fun h=>this h.symm
 have hGn:∀j,j<cnt->(G j).aW<st_b.next:=fun j hj=>by rw[RD];omega
 by_cases hi:(i:Int)<(bs.length:Int)
 ·have er:∀{e:Env} {gg:Rows} {nx:Nat},(e 33=.int .i64 (IntKind.i64.wrap ((i:Int)+1)))->(gg ⟨240001001,n0+1⟩=some ⟨true,1,lE G cnt cnt⟩)->(n0+3+4*cnt<=nx)->(∃px,mL cnt px (dQ (bs.take (i+1)))/\sS gg G cnt px)->∃m0,m0<(bs.length)-i/\∃i:Nat,m0=(bs.length)-i/\i<=(bs.length)/\e 33=.int .i64 (i:Int)/\gg ⟨240001001,n0+1⟩=some ⟨true,1,lE G cnt cnt⟩/\(n0+3+4*cnt<=nx)/\(∃px,mL cnt px (dQ (bs.take i))/\sS gg G cnt px):=fun x1 x2 x3 x4=>⟨_,by omega,i+1,rfl,by omega,(by rw[x1,ax (by omega)]),x2,x3,x4⟩
  have fA:i<bs.length:=by omega
  have jY:(bs.map ay)[i]? =some (ay bs[i]):=by simp[fA]
  have E6:=hb _ (List.getElem_mem fA)
  have mV:bs.take (i+1)=bs.take i++[bs[i]]:=List.take_succ_eq_append_getElem fA
  have lh:dQ (bs.take (i+1))=ef (dQ (bs.take i)) bs[i]:=by rw[mV,uK]
  have hL:=sH (bs.take i)
  generalize dQ (bs.take i)=L at *
  generalize bs[i]=b at *
  have gA:=vK (G:=G) E6.1
  have gB:=vK (G:=G) E6.2
  have gi:(b.a:Int)<(cnt:Int):=by omega
  have ft:(b.b:Int)<(cnt:Int):=by omega
  (try((repeat(revert hN;revert N;apply Pn.out));refine wk (tw @sU (tw @bg0 (tw @b0 (tw @b1 (tw @b5 (tw @wU (tw @se (tw @hi (tw @jY (tw @ay.eq_1 (tw @gA (tw @gB (tw @gi (tw @ft @tl)))))))))))))) ?_;(repeat(refine Pn.mk ?_;intro N hN))))
  refine Dt (fun e s=>e 0=.int .i64 cnt/\e 1=.sl (bs.map ay)/\e 5=.own ⟨240001001,n0+1⟩ 0 cnt/\e 31=.sl (bs.map ay)/\e 32=.int .i64 bs.length/\e 33=.int .i64 i/\e 9=.ptr (G (L b.a)) 0 0/\e 10=.ptr (G (L b.b)) 0 0/\(∀j:Id,j.aW<st_b.next->s.get j=st_b.get j)/\st_b.next<=s.next) ?_ ?_
  ·rintro e1 s1 ⟨m0,m1,m5,m31,m32,m33,m9,m10,mf,mn⟩
   refine hN _ _ ?_
   clear hN N
   have mG:sS s1.get G cnt px:=Qo.frame fun k hk=>mf _ (hGn k hk)
   have mt:=(mf ⟨240001001,n0+1⟩ (by(try dsimp only);omega)).trans bg0
   have Sb:L b.a<cnt:=Nat.lt_of_le_of_lt (hL.le _) E6.1
   have ME:L b.b<cnt:=Nat.lt_of_le_of_lt (hL.le _) E6.2
   have ra:=mG _ Sb
   have rb:=mG _ ME
   rw[k9 (Jc.root hL Sb (hL.idem _))]at ra
   rw[k9 (Jc.root hL ME (hL.idem _))]at rb
   have put:∀(g':Rows) (lo hi:Nat),hi<cnt->g' (G hi)=some ⟨true,2,[[.ptr (G lo) 0 0,.int .i64 (hi:Int)]]⟩->(∀k,k≠hi->k<cnt->g' (G k)=s1.get (G k))->sS g' G cnt (fun k=>if k=hi then some lo else px k):=fun g' lo hi _ h1 h2 k hk=>by
    by_cases I9:k=hi
    ·subst I9;rw[h1,sD (j:=lo) (if_pos rfl)]
    ·rw[h2 k I9 hk,mG k hk]
     unfold rD
     simp only[if_neg I9]
   rcases Nat.lt_trichotomy (L b.a) (L b.b)with dy|heq|dy
   ·have MG:(L b.a:Int)<(L b.b:Int):=by omega
    have hj:=Jc.join hL b (by omega)
    rw[Nat.max_eq_right (by omega),Nat.min_eq_left (by omega),<-lh]at hj
    (try((repeat(revert hN;revert N;apply Pn.out));refine wk (tw @m0 (tw @m1 (tw @m5 (tw @m31 (tw @m32 (tw @m33 (tw @m9 (tw @m10 (tw @ra (tw @rb @MG)))))))))) ?_;(repeat(refine Pn.mk ?_;intro N hN))))
    refine er ?_ ?_ (by(try dsimp only);omega) (⟨_,hj,put _ _ _ ME (sd @Nat.zero_add) (fun k hk _=>by
     have fY:=RA k _ hk
     simp only[go_sem, ↓reduceIte,Nat.reduceEqDiff,Nat.reduceAdd,Nat.reduceSub,Nat.reduceLeDiff,reduceCtorEq,fY])⟩)
    all_goals simp only[go_sem, ↓reduceIte,Nat.reduceEqDiff,Nat.reduceAdd,Nat.reduceSub,Nat.reduceLeDiff,reduceCtorEq,m0,m1,m5,m31,m32,m33,mt,ym,Co]
   ·have zH:¬(L b.a:Int)<(L b.b:Int):=by omega
    have Pk:¬(L b.b:Int)<(L b.a:Int):=by omega
    have JY:=yG heq
    rw[JY]at lh
    (try((repeat(revert hN;revert N;apply Pn.out));refine wk (tw @m0 (tw @m1 (tw @m5 (tw @m31 (tw @m32 (tw @m33 (tw @m9 (tw @m10 (tw @ra (tw @rb (tw @zH @Pk))))))))))) ?_;(repeat(refine Pn.mk ?_;intro N hN))))
    refine er ?_ ?_ (by(try dsimp only);omega) (⟨_,lh▸Jc,mG.frame fun k hk=>rfl⟩)
    all_goals simp only[go_sem, ↓reduceIte,Nat.reduceEqDiff,Nat.reduceAdd,Nat.reduceSub,Nat.reduceLeDiff,reduceCtorEq,m0,m1,m5,m31,m32,m33,mt]
   ·have MG:(L b.b:Int)<(L b.a:Int):=by omega
    have zH:¬(L b.a:Int)<(L b.b:Int):=by omega
    have hj:=Jc.join hL b (by omega)
    rw[Nat.max_eq_left (by omega),Nat.min_eq_right (by omega),<-lh]at hj
    (try((repeat(revert hN;revert N;apply Pn.out));refine wk (tw @m0 (tw @m1 (tw @m5 (tw @m31 (tw @m32 (tw @m33 (tw @m9 (tw @m10 (tw @ra (tw @rb (tw @MG @zH))))))))))) ?_;(repeat(refine Pn.mk ?_;intro N hN))))
    refine er ?_ ?_ (by(try dsimp only);omega) (⟨_,hj,put _ _ _ Sb (sd @Nat.zero_add) (fun k hk _=>by
     have fY:=RA k _ hk
     simp only[go_sem, ↓reduceIte,Nat.reduceEqDiff,Nat.reduceAdd,Nat.reduceSub,Nat.reduceLeDiff,reduceCtorEq,fY])⟩)
    all_goals simp only[go_sem, ↓reduceIte,Nat.reduceEqDiff,Nat.reduceAdd,Nat.reduceSub,Nat.reduceLeDiff,reduceCtorEq,m0,m1,m5,m31,m32,m33,mt,ym,Co]
  ·intro N hN
   refine eX ?_ ?_<;>(try((repeat(revert hN;revert N;apply Pn.out));refine wk (tw @sU (tw @bg0 (tw @b0 (tw @b1 (tw @b5 (tw @wU (tw @se (tw @hi (tw @jY (tw @ay.eq_1 (tw @gA (tw @gB (tw @gi (tw @ft @tl)))))))))))))) ?_;(repeat(refine Pn.mk ?_;intro N hN))))<;>(try refine eX ?_ ?_)<;>(try((repeat(revert hN;revert N;apply Pn.out));refine wk (tw @sU (tw @bg0 (tw @b0 (tw @b1 (tw @b5 (tw @wU (tw @se (tw @hi (tw @jY (tw @ay.eq_1 (tw @gA (tw @gB (tw @gi (tw @ft @tl)))))))))))))) ?_;(repeat(refine Pn.mk ?_;intro N hN))))<;>(try refine eX ?_ ?_)<;>(try((repeat(revert hN;revert N;apply Pn.out));refine wk (tw @sU (tw @bg0 (tw @b0 (tw @b1 (tw @b5 (tw @wU (tw @se (tw @hi (tw @jY (tw @ay.eq_1 (tw @gA (tw @gB (tw @gi (tw @ft @tl)))))))))))))) ?_;(repeat(refine Pn.mk ?_;intro N hN))))
   all_goals
    refine .inr (aU _ _ _ _ _ (fun r σ1 hq=>?_) (yd G cnt px L Jc b.a E6.1 _ (Qo.frame fun k hk=>sd @OP)))
    obtain⟨g1,x1⟩:=σ1
    obtain⟨rfl,Cr,E9⟩:=hq
    (try dsimp only at Cr E9)
    subst Cr
    refine hN _ _ ?_
    clear hN N
    (try((repeat(revert hN;revert N;apply Pn.out));refine wk (tw @sU (tw @bg0 (tw @b0 (tw @b1 (tw @b5 (tw @wU (tw @se (tw @hi (tw @jY (tw @ay.eq_1 (tw @gA (tw @gB (tw @gi (tw @ft @tl)))))))))))))) ?_;(repeat(refine Pn.mk ?_;intro N hN))))
    refine .inr (aU _ _ _ _ _ (fun r σ1 hq=>?_) (yd G cnt px L Jc b.b E6.2 _ (Qo.frame fun k hk=>sd @OP)))
    obtain⟨g1,x2⟩:=σ1
    obtain⟨rfl,Cr,lx⟩:=hq
    (try dsimp only at Cr lx)
    subst Cr
    refine hN _ _ ?_
    clear hN N
    (try((repeat(revert hN;revert N;apply Pn.out));refine wk (tw @sU (tw @bg0 (tw @b0 (tw @b1 (tw @b5 (tw @wU (tw @se (tw @hi (tw @jY (tw @ay.eq_1 (tw @gA (tw @gB (tw @gi (tw @ft @tl)))))))))))))) ?_;(repeat(refine Pn.mk ?_;intro N hN))))
    exact⟨sd (tw @sU (tw @bg0 (tw @b0 (tw @b1 (tw @b5 (tw @wU @se)))))),sd (tw @sU (tw @bg0 (tw @b0 (tw @b1 (tw @b5 (tw @wU @se)))))),sd (tw @sU (tw @bg0 (tw @b0 (tw @b1 (tw @b5 (tw @wU @se)))))),sd (tw @sU (tw @bg0 (tw @b0 (tw @b1 (tw @b5 (tw @wU @se)))))),sd (tw @sU (tw @bg0 (tw @b0 (tw @b1 (tw @b5 (tw @wU @se)))))),sd (tw @sU (tw @bg0 (tw @b0 (tw @b1 (tw @b5 (tw @wU @se)))))),sd (tw @sU (tw @bg0 (tw @b0 (tw @b1 (tw @b5 (tw @wU @se)))))),sd (tw @sU (tw @bg0 (tw @b0 (tw @b1 (tw @b5 (tw @wU @se)))))),fun j hj=>by
     have hv:=dv hj
     simp only[go_sem, ↓reduceIte,Nat.reduceEqDiff,Nat.reduceAdd,Nat.reduceSub,Nat.reduceLeDiff,reduceCtorEq,hv],by(try dsimp only);omega⟩
 have lv:i=bs.length:=by omega
 subst lv
 rw[List.take_length]at Jc
 have hL:=sH bs
 generalize dQ bs=L at *
 (try((repeat(revert hN;revert N;apply Pn.out));refine wk (tw @sU (tw @bg0 (tw @b0 (tw @b1 (tw @b5 (tw @wU (tw @se (tw @hi @tl)))))))) ?_;(repeat(refine Pn.mk ?_;intro N hN))))
 have l0:ku 0 L=[]:=rfl
 have oS:(none:Option Nat).isSome=false:=rfl
 have oT:∀a:Nat,(some a).isSome=true:=fun _=>rfl
 refine aH (fun n env st=>∃x:Nat,n=(cnt)-x/\x<=(cnt)/\env 81=.int .i64 (x:Int)/\st.get ⟨240001001,n0+1⟩=some ⟨true,1,lE G cnt cnt⟩/\st.get ⟨240017000,st_b.next+1+1⟩=some ⟨true,mI.nv,ku x L⟩/\(st_b.next+3<=st.next/\sS st.get G cnt px)/\((x=0/\env 11=.cu)∨∃o:Id,env 11=.own o 0 (leads x L).length/\Ey st.get o (jy x L) st.next)) (cnt) ⟨0,by omega,by omega,sl (tw @sU (tw @bg0 (tw @b0 (tw @b1 (tw @b5 (tw @wU (tw @se @l0))))))),sl (tw @sU (tw @bg0 (tw @b0 (tw @b1 (tw @b5 (tw @wU (tw @se @l0))))))),sl (tw @sU (tw @bg0 (tw @b0 (tw @b1 (tw @b5 (tw @wU (tw @se @l0))))))),⟨by(try dsimp only);omega,Qo.frame fun k hk=>by(have fY:=JF k 240017000 (st_b.next+1+1) (by decide));simp only[go_sem, ↓reduceIte,Nat.reduceEqDiff,Nat.reduceAdd,Nat.reduceSub,Nat.reduceLeDiff,reduceCtorEq,fY]⟩,.inl ⟨rfl,sd @Nat.zero_add⟩⟩ ?_
 rintro n_c env_c st_c ⟨x,rfl,cle,c81,cg0,cg1,cI0,cI1⟩ cfr
 have xY:=cfr 12 (by kernel_rfl);have Js:=cfr 79 (by kernel_rfl);have Jt:=cfr 80 (by kernel_rfl)
 simp only[go_sem, ↓reduceIte,Nat.reduceEqDiff,Nat.reduceAdd,Nat.reduceSub,Nat.reduceLeDiff,reduceCtorEq,sU,bg0,b0,b1,b5,wU,se,l0]at xY Js Jt
 clear cfr
 obtain⟨iR,OD⟩:=cI0
 have Mo:∀j v,(G j=(⟨240017000,v⟩:Id))=False:=fun j v=>JF j _ v (by decide)
 have Mj:∀j v,(G j=(⟨240025002,v⟩:Id))=False:=fun j v=>JF j _ v (by decide)
 have Mm:∀j v,(G j=(⟨240025001,v⟩:Id))=False:=fun j v=>JF j _ v (by decide)
 have Mn:∀j v,(G j=(⟨240026007,v⟩:Id))=False:=fun j v=>JF j _ v (by decide)
 have Ml:∀j v,(G j=(⟨240026008,v⟩:Id))=False:=fun j v=>JF j _ v (by decide)
 by_cases hx:(x:Int)<(cnt:Int)
 ·have gM:∀{e:Env} {gg:Rows} {nx:Nat},(e 81=.int .i64 (IntKind.i64.wrap ((x:Int)+1)))->(gg ⟨240001001,n0+1⟩=some ⟨true,1,lE G cnt cnt⟩)->(gg ⟨240017000,st_b.next+1+1⟩=some ⟨true,mI.nv,ku (x+1) L⟩)->(st_b.next+3<=nx/\sS gg G cnt px)->(((x+1)=0/\e 11=.cu)∨∃o:Id,e 11=.own o 0 (leads (x+1) L).length/\Ey gg o (jy (x+1) L) nx)->∃m0,m0<(cnt)-x/\∃x:Nat,m0=(cnt)-x/\x<=(cnt)/\e 81=.int .i64 (x:Int)/\gg ⟨240001001,n0+1⟩=some ⟨true,1,lE G cnt cnt⟩/\gg ⟨240017000,st_b.next+1+1⟩=some ⟨true,mI.nv,ku x L⟩/\(st_b.next+3<=nx/\sS gg G cnt px)/\((x=0/\e 11=.cu)∨∃o:Id,e 11=.own o 0 (leads x L).length/\Ey gg o (jy x L) nx):=fun x1 x2 x3 x4 x5=>⟨_,by omega,x+1,rfl,by omega,(by rw[x1,ax (by omega)]),x2,x3,x4,x5⟩
  have On:x<cnt:=by omega
  have gX:=vK (G:=G) On
  have hlx:L x<cnt:=Nat.lt_of_le_of_lt (hL.le _) On
  have ra:=OD _ hlx
  rw[k9 (Jc.root hL hlx (hL.idem _))]at ra
  have pI:=jA x L
  (try((repeat(revert hN;revert N;apply Pn.out));refine wk (tw @c81 (tw @cg0 (tw @cg1 (tw @xY (tw @Js (tw @Jt (tw @hx (tw @gX @tl)))))))) ?_;(repeat(refine Pn.mk ?_;intro N hN))))
  refine .inr (aU _ _ _ _ _ (fun r σ1 hq=>?_) (yd G cnt px L Jc x On _ (OD.frame fun k hk=>sd @Nat.zero_add)))
  obtain⟨g1,x1⟩:=σ1
  obtain⟨rfl,Cr,E9⟩:=hq
  (try dsimp only at Cr E9)
  subst Cr
  refine hN _ _ ?_
  clear hN N
  by_cases hr:L x=x
  ·rw[hr]at ra ⊢
   have l7:=FC hr
   have QM:(leads (x+1) L).length=(leads x L).length+1:=by rw[gq,if_pos hr];simp
   have Og:=CO hr
   have QG:=Cl hL hr
   rcases cI1 with⟨rfl,nj⟩|⟨o,nj,cS⟩
   ·have Sz:ku 1 L=[[.int .i64 ((0:Nat):Int),.int .i64 ((0:Nat):Int)]]:=Og
    (try((repeat(revert hN;revert N;apply Pn.out));refine wk (tw @c81 (tw @cg0 (tw @cg1 (tw @xY (tw @Js (tw @Jt (tw @nj (tw @ra (tw @l7 (tw @l0 (tw @oS (tw @oT (tw @Bool.not_false @Bool.not_true))))))))))))) ?_;(repeat(refine Pn.mk ?_;intro N hN))))
    refine gM ?_ ?_ ?_ (by(try dsimp only);exact⟨by omega,OD.frame fun k hk=>sd (tw @Mo (tw @Mj (tw @Ml (tw @Mm @Mn))))⟩) (.inr ⟨⟨240025002,x1+1+1+1+1⟩,by simp only[go_sem, ↓reduceIte,Nat.reduceEqDiff,Nat.reduceAdd,Nat.reduceSub,Nat.reduceLeDiff,reduceCtorEq,QM];rfl,by rw[QG];exact JE (v':=x1+1+1+1+1+1) (sd @Nat.zero_add) (sd @eN.eq_1) (by(try dsimp only);omega) (by(try dsimp only);omega)⟩)
    all_goals simp only[go_sem, ↓reduceIte,Nat.reduceEqDiff,Nat.reduceAdd,Nat.reduceSub,Nat.reduceLeDiff,reduceCtorEq,c81,cg0,cg1,xY,Js,Jt,Sz]
   ·obtain⟨rows,uz,tx,jZ⟩:=cS.new x
    rw[pG]at tx
    have wv:o.site=240025002:=by obtain⟨_,_,_,_,_,_,h,_⟩:=cS;exact h
    have lO:o.aW<x1:=by obtain⟨_,_,_,_,_,_,_,h⟩:=cS;omega
    have pK:=dv lO
    have Pp:=gE (o:=o) wv (b:=240017000) (v:=st_b.next+1+1) (by decide)
    have N9:=gE (o:=o) wv (b:=240001001) (v:=n0+1) (by decide)
    have Mp:∀k,(G k=o)=False:=fun k=>by simp only[eq_iff_iff,iff_false];intro h;have h1:=Qp k;rw[h,wv]at h1;cases h1
    have rI:(rows++[[AV.cu]])[(leads x L).length]? =some [.cu]:=by rw[<-tx];simp
    have Az:∀a:List AV,(rows++[[AV.cu]]).set (leads x L).length a=rows++[a]:=fun a=>by rw[<-tx];simp
    have e1:(leads x L).length+1<=16777216:=by omega
    have e2:((leads x L).length:Int)<(((leads x L).length+1:Nat):Int):=by omega
    (try((repeat(revert hN;revert N;apply Pn.out));refine wk (tw @c81 (tw @cg0 (tw @cg1 (tw @xY (tw @Js (tw @Jt (tw @nj (tw @ra (tw @l7 (tw @uz (tw @tx (tw @pK (tw @Pp (tw @rI (tw @Az (tw @e1 (tw @e2 (tw @oS (tw @oT (tw @Bool.not_false @Bool.not_true)))))))))))))))))))) ?_;(repeat(refine Pn.mk ?_;intro N hN))))
    refine gM ?_ ?_ ?_ (by(try dsimp only);exact⟨by omega,OD.frame fun k hk=>sd (tw @Mo (tw @Mj (tw @Ml (tw @Mm (tw @Mn @Mp)))))⟩) (.inr ⟨⟨240025002,x1+1+1+1+1⟩,sd @QM,by rw[QG];exact jZ _ _ (x1+1+1+1+1+1) _ (by omega) (by(try dsimp only);omega) (by(try dsimp only);omega) (sd @Az) (sd @eN.eq_1) (fun j hj hv=>by
     have q1:=dv (i:=j) (n:=x1) (by omega)
     have q2:=gE hj (b:=240017000) (v:=st_b.next+1+1) (by decide)
     have q3:(j=o)=False:=by simp only[eq_iff_iff,iff_false];intro h;rw[h,wv]at hj;cases hj
     simp only[go_sem, ↓reduceIte,Nat.reduceEqDiff,Nat.reduceAdd,Nat.reduceSub,Nat.reduceLeDiff,reduceCtorEq,q1,q2,q3])⟩)
    all_goals simp only[go_sem, ↓reduceIte,Nat.reduceEqDiff,Nat.reduceAdd,Nat.reduceSub,Nat.reduceLeDiff,reduceCtorEq,c81,cg0,cg1,xY,Js,Jt,Og,pK,Pp,N9]
  ·obtain⟨l7,Hy,dy⟩:=xw hL hr
   obtain⟨Pa,QG⟩:=Cm hL hr
   have QM:(leads (x+1) L).length=(leads x L).length:=by rw[gq,if_neg hr];simp
   have JY:=CN hr
   rcases cI1 with⟨rfl,nj⟩|⟨o,nj,cS⟩
   ·exact absurd (Nat.le_zero.1 (hL.le 0)) hr
   ·obtain⟨rows,id,uz,tx,hrk,hid,Hl,hidv,RP⟩:=cS.add Pa x
    rw[pG]at tx
    have wv:o.site=240025002:=by obtain⟨_,_,_,_,_,_,h,_⟩:=cS;exact h
    have lO:o.aW<x1:=by obtain⟨_,_,_,_,_,_,_,h⟩:=cS;omega
    have pK:=dv lO
    have xl:=dv (i:=id) (n:=x1) (by omega)
    have jY:(bf L x:Int)<((leads x L).length:Int):=by omega
    have Pj:=AR x L (L x)
    have hma:((members x L (L x)).map eN).length=(members x L (L x)).length:=by simp
    have e1:(members x L (L x)).length+1<=16777216:=by omega
    have hoi:(o=id)=False:=by simp only[eq_iff_iff,iff_false];rintro rfl;rw[Hl]at wv;cases wv
    have hio:(id=o)=False:=by simp only[eq_iff_iff,iff_false];rintro rfl;rw[Hl]at wv;cases wv
    have Pp:=gE (o:=o) wv (b:=240017000) (v:=st_b.next+1+1) (by decide)
    have N9:=gE (o:=o) wv (b:=240001001) (v:=n0+1) (by decide)
    have hiM:=gE (o:=id) Hl (b:=240017000) (v:=st_b.next+1+1) (by decide)
    have hiT:=gE (o:=id) Hl (b:=240001001) (v:=n0+1) (by decide)
    have Mp:∀k,(G k=o)=False:=fun k=>by simp only[eq_iff_iff,iff_false];intro h;have h1:=Qp k;rw[h,wv]at h1;cases h1
    have RB:∀k,(G k=id)=False:=fun k=>by simp only[eq_iff_iff,iff_false];intro h;have h1:=Qp k;rw[h,Hl]at h1;cases h1
    (try((repeat(revert hN;revert N;apply Pn.out));refine wk (tw @c81 (tw @cg0 (tw @cg1 (tw @xY (tw @Js (tw @Jt (tw @nj (tw @ra (tw @l7 (tw @Hy (tw @uz (tw @tx (tw @hrk (tw @hid (tw @pK (tw @xl (tw @jY (tw @hma (tw @e1 (tw @hoi (tw @hio (tw @Pp (tw @N9 (tw @hiM (tw @hiT (tw @oS (tw @oT (tw @Bool.not_false @Bool.not_true)))))))))))))))))))))))))))) ?_;(repeat(refine Pn.mk ?_;intro N hN))))
    refine gM ?_ ?_ ?_ (by(try dsimp only);exact⟨by omega,OD.frame fun k hk=>sd (tw @Mo (tw @Mj (tw @Ml (tw @Mm (tw @Mn (tw @Mp @RB))))))⟩) (.inr ⟨o,sd (tw @QM @nj),by rw[QG];exact RP _ (x1+1+1) _ (by omega) (by(try dsimp only);omega) (sd @Nat.zero_add) (sd (tw @pK (tw @xl (tw @hoi @hio)))) (fun j hj hv l6=>by
     have q1:=dv (i:=j) (n:=x1) (by omega)
     have q2:=gE hj (b:=240017000) (v:=st_b.next+1+1) (by decide)
     have q3:(j=o)=False:=by simp only[eq_iff_iff,iff_false];intro h;rw[h,wv]at hj;cases hj
     simp only[go_sem, ↓reduceIte,Nat.reduceEqDiff,Nat.reduceAdd,Nat.reduceSub,Nat.reduceLeDiff,reduceCtorEq,q1,q2,q3,l6])⟩)
    all_goals simp only[go_sem, ↓reduceIte,Nat.reduceEqDiff,Nat.reduceAdd,Nat.reduceSub,Nat.reduceLeDiff,reduceCtorEq,c81,cg0,cg1,xY,Js,Jt,JY,pK,xl,Pp,N9,hiM,hiT]
 have SH:x=cnt:=by omega
 rcases cI1 with⟨h0,_⟩|⟨o,nj,rows,ids,uz,hR,_,_,_,_⟩
 ·omega
 have tx:=hR.len
 rw[pG]at tx
 (try((repeat(revert hN;revert N;apply Pn.out));refine wk (tw @c81 (tw @cg0 (tw @cg1 (tw @xY (tw @Js (tw @Jt (tw @hx (tw @nj @uz)))))))) ?_;(repeat(refine Pn.mk ?_;intro N hN))))
 refine vu (.inl rfl) (by simp only[go_sem, ↓reduceIte,Nat.reduceEqDiff,Nat.reduceAdd,Nat.reduceSub,Nat.reduceLeDiff,reduceCtorEq];rfl) ?_
 rw[tn uz (by omega) (rows':=(fc cnt L).map zD) (by
  rw[List.drop_zero,List.take_of_length_le (by omega)]
  rw[SH]at hR;exact HO 3 hR)]
end Go.Proofs.YtgoelphibofcmaaGreat.V

namespace Go.Proofs.YtgoelphibofcmaaGreat.V
open Go.RowKit
attribute [local irreducible] dI wpOps ib Call
attribute [local go_sem] aJ gu eW gR gQ cE upd cw K.av cY AV.cells AV.cell rowOf rowsOf part ld rowAt bB cr dY eG jq bP dq eT gP fx dE eK dn dm eu ew bU bp db bR de dc eI eL eJ da cm dp eH bQ aO di cI jo bE cU bV aY du aV ea AV.undef bG bJ eA eE ei ep cJ eR eV cG eO eM dh dj List.getD_cons_zero List.getD_cons_succ List.getD_nil List.all_cons List.all_nil Bool.and_true Bool.true_and Bool.and_self Bool.not_true Bool.not_false Option.map_some Option.map_none Option.bind_some Option.bind_none List.length_cons List.length_nil List.take_succ_cons List.take_zero List.take_nil List.drop_succ_cons List.drop_zero List.drop_nil List.head?_cons List.map_cons List.map_nil List.getElem?_cons_zero List.getElem?_cons_succ List.cons_append List.nil_append List.append_nil List.length_map List.set_cons_zero List.set_cons_succ Nat.reduceMul eq_self Int.toNat_natCast Int.natCast_nonneg and_self true_and and_true decide_true decide_false Bool.false_eq_true Nat.zero_add Nat.add_zero List.contains_cons List.contains_nil Bool.or_false Bool.false_or beq_self_eq_true Nat.reduceBEq ne_eq not_true_eq_false not_false_eq_true Id.mk.injEq false_and and_false Nat.reduceLT Int.reduceLE Int.reduceLT Int.reduceToNat Int.reduceNeg Int.reduceAdd Nat.le_refl List.length_append beq_true beq_false Bool.not_eq_eq_eq_not or_false false_or eh ao aq aK br bI cC bc bz aQ bt cX cj
theorem IP (b:PB) (t:Int):aj Tryz.prog 243 [.agg (ay b),.bK [.int .i64 t]] (.bool (decide (b.s<t))):=by
 refine aj.body ej rfl fun hl n0=>?_
 clear hl
 (try((repeat(revert hN;revert N;apply Pn.out));refine wk @ay.eq_1 ?_;(repeat(refine Pn.mk ?_;intro N hN))))
 exact aI (b:=decide (b.s<t)) (.inl rfl) (sd @Nat.zero_add) rfl
theorem xp (bs:List PB) (t:Int) (hl:bs.length<=1048576):aj Tryz.prog 263 [.sl (bs.map ay),.fn 243 [.bK [.int .i64 t]]] (.int .i64 (ik (fun b:PB=>decide (b.s<t)) bs)):=
 nQ GY (show np Tryz.prog 263=some (pM 263 3 true) by kernel_rfl) bs hl 243 _ _ (fun x _=>IP x t) fun g=>by simp only[ao,aq,aQ,Option.map_some]
theorem GU (bs:List PB) (hp:0<bs.length) (hl:bs.length<=1048576) (σ:ar):
  Call Tryz.prog 242 [.sl (bs.map ay)] σ fun r σ'=>∃o:Id,r=.own o 0 bs.length/\σ'.get o=some ⟨true,3,bs.map ay⟩/\σ.next<=o.aW/\o.aW<σ'.next/\∀i:Id,i.aW<σ.next->σ'.get i=σ.get i:=by
 refine gT ej rfl fun hl=>?_
 clear hl
 have hz:=all_map (l:=bs) LB
 obtain⟨b,r,rfl⟩:∃b r,bs=b::r:=by
  cases bs with
  |nil=>simp at hp
  |cons b r=>exact⟨b,r,rfl⟩
 have pI:(List.map ay (b::r)).length=(b::r).length:=by simp
 have e1:r.length<=16777215:=by simp at hl;omega
 rw[List.map_cons]at hz pI ⊢
 (try((repeat(revert hN;revert N;apply Pn.out));refine wk (tw @hz (tw @pI @e1)) ?_;(repeat(refine Pn.mk ?_;intro N hN))))
 refine gD (.inl rfl) (vs:=[.own ⟨242003002,σ.next+1+1⟩ 0 (b::r).length]) (by simp only[eY,gO,go_sem, ↓reduceIte,Nat.reduceEqDiff,Nat.reduceAdd,Nat.reduceSub,Nat.reduceLeDiff,reduceCtorEq,List.length_cons]) ⟨⟨242003002,σ.next+1+1⟩,rfl,sd @Nat.zero_add,by(try dsimp only);omega,by(try dsimp only);omega,fun i hi=>?_⟩
 have hv:=dv hi
 simp only[go_sem, ↓reduceIte,Nat.reduceEqDiff,Nat.reduceAdd,Nat.reduceSub,Nat.reduceLeDiff,reduceCtorEq,hv]
theorem oe {t:Int} {bs:List PB} {j:Nat} (hj:j<bs.length):aE t (bs.take (j+1))=aE t (bs.take j)++if decide (bs[j].s<t)=true then[]else[bs[j]]:=by
 rw[sQ t bs j hj]
 congr 1
 by_cases h:bs[j].s<t
 ·rw[if_neg (by omega),if_pos (decide_eq_true h)]
 ·rw[if_pos (by omega),if_neg (by simp only[decide_eq_true_eq];exact h)]
theorem sP {t:Int} {bs:List PB} (h:∀b∈bs,¬b.s<t):aE t bs=bs:=by
 unfold aE
 rw[List.filter_eq_self]
 intro b hb
 have:=h b hb
 exact decide_eq_true (by omega)
structure sR (t:Int) (bs:List PB) (j:Nat) (R:List PB):Prop where
 len:R.length=bs.length
 pre:R.take (aE t (bs.take j)).length=aE t (bs.take j)
 post:∀x,j<=x->R[x]? =bs[x]?
 lt:(aE t (bs.take j)).length<j
theorem sR.start {t:Int} {bs:List PB} {i:Nat} (hi:i<bs.length) (hw:bs[i].s<t) (hp:∀x (h:x<i),¬bs[x].s<t):sR t bs (i+1) bs/\(aE t (bs.take (i+1))).length=i:=by
 have h1:aE t (bs.take i)=bs.take i:=sP fun b hb=>by
  obtain⟨x,hx,rfl⟩:=List.getElem_of_mem hb
  rw[List.length_take]at hx
  rw[List.getElem_take]
  exact hp x (by omega)
 have h2:aE t (bs.take (i+1))=bs.take i:=by rw[oe hi,if_pos (decide_eq_true hw),List.append_nil,h1]
 have h3:(bs.take i).length=i:=by rw[List.length_take];omega
 exact⟨⟨rfl,by rw[h2,h3],fun _ _=>rfl,by rw[h2,h3];omega⟩,by rw[h2,h3]⟩
theorem sR.NA {t:Int} {bs R:List PB} {j:Nat} (h:sR t bs j R) (hj:j<bs.length) (hw:bs[j].s<t):sR t bs (j+1) R/\(aE t (bs.take (j+1))).length=(aE t (bs.take j)).length:=by
 have h2:aE t (bs.take (j+1))=aE t (bs.take j):=by rw[oe hj,if_pos (decide_eq_true hw),List.append_nil]
 exact⟨⟨h.len,by rw[h2];exact h.pre,fun x hx=>h.post x (by omega),by rw[h2];have:=h.lt;omega⟩,by rw[h2]⟩
theorem sR.oZ {t:Int} {bs R:List PB} {j:Nat} (h:sR t bs j R) (hj:j<bs.length) (hw:¬bs[j].s<t):sR t bs (j+1) (R.set (aE t (bs.take j)).length bs[j])/\(aE t (bs.take (j+1))).length=(aE t (bs.take j)).length+1:=by
 have h2:aE t (bs.take (j+1))=aE t (bs.take j)++[bs[j]]:=by rw[oe hj,if_neg (by simp only[decide_eq_true_eq];exact hw)]
 have dy:=h.lt
 have hlen:=h.len
 have oX:=h.pre
 generalize hc:(aE t (bs.take j)).length=c at *
 refine⟨⟨by rw[List.length_set];exact hlen,?_,fun x hx=>?_,by rw[h2,List.length_append,hc];simp;omega⟩,by rw[h2,List.length_append,hc];rfl⟩
 ·rw[h2,List.length_append,hc,List.length_singleton,List.take_succ_eq_append_getElem (by rw[List.length_set];omega),List.getElem_set_self,List.take_set_of_le (Nat.le_refl _),oX]
 ·rw[List.getElem?_set_ne (by omega)];exact h.post x (by omega)
theorem sR.at_ {t:Int} {bs R:List PB} {j:Nat} (h:sR t bs j R) (hj:j<bs.length):(R.map ay)[j]? =some (ay bs[j]):=by
 rw[List.getElem?_map,h.post j (Nat.le_refl j),List.getElem?_eq_getElem hj];rfl
theorem B8 {p:PB->Bool} {bs:List PB} (h:¬0<=ik p bs):∀b∈bs,p b=false:=by
 intro b hb
 unfold ik at h
 split at h
 ·omega
 ·rename_i h1
  rw[List.findIdx_lt_length]at h1
  cases hp:p b
  ·rfl
  ·exact absurd ⟨b,hb,hp⟩ h1
theorem B9 {p:PB->Bool} {bs:List PB} (h:0<=ik p bs):∃i,∃hi:i<bs.length,ik p bs=(i:Int)/\p bs[i]=true/\∀x (hx:x<i),p (bs[x]'(by omega))=false:=by
 unfold ik at h ⊢
 split
 ·rename_i h1
  exact⟨bs.findIdx p,h1,rfl,List.findIdx_getElem,fun x hx=>by simpa using List.not_of_lt_findIdx hx⟩
 ·rename_i h1;rw[if_neg h1]at h;omega
theorem ES (bs:List PB) (t:Int) (hl:bs.length<=1048576) (o T:Id) (σ:ar) (ho:σ.get o=some ⟨true,3,bs.map ay⟩) (hT:σ.get T=some ⟨true,1,[[.int .i64 t]]⟩) (lO:o.aW<σ.next) (Qv:T.aW<σ.next) (N9:o≠T):
  Call Tryz.prog 241 [.own o 0 bs.length,.fn 243 [.ptr T 0 0]] σ fun r σ'=>∃rows,r=.own o 0 (aE t bs).length/\σ'.get o=some ⟨true,3,rows⟩/\rows.take (aE t bs).length=(aE t bs).map ay/\(aE t bs).length<=rows.length/\σ.next<=σ'.next/\∀i:Id,i.aW<σ.next->i≠o->σ'.get i=σ.get i:=by
 refine gT ej rfl fun mm=>?_
 clear mm
 have zF:=xp bs t hl
 have hzT:∀(g:Rows),g T=some ⟨true,1,[[.int .i64 t]]⟩->V.fz (eh g) 5 (.ptr T 0 0)=some (.bK [.int .i64 t]):=fun g hg=>rC (sz:=1) (rows:=[[.int .i64 t]]) (by simp[eh,hg]) rfl (by simp only[List.drop_zero,ao,aq,aK,Option.map_some])
 have tz:∀(g:Rows),g T=some ⟨true,1,[[.int .i64 t]]⟩->g o=some ⟨true,3,bs.map ay⟩->cH (eh g) 6 [.own o 0 bs.length,.fn 243 [.ptr T 0 0]]=some [.sl (bs.map ay),.fn 243 [.bK [.int .i64 t]]]:=fun g h1 h2=>by
  have q1:=jx (g:=eh g) (n:=5) (e:=ay) (sz:=3) (len:=bs.length) (l:=bs) (id:=o) (by simp[eh,h2]) rfl fun b=>yf _ 4 b
  have q2:=hzT g h1
  simp only[ao,aq,q1,cX,List.all_cons,List.all_nil,AV.cell,Bool.and_true,if_true,q2,Option.map_some]
 have kf:∀(g:Rows),g T=some ⟨true,1,[[.int .i64 t]]⟩->∀b:PB,cH (eh g) 6 [.agg (ay b),.ptr T 0 0]=some [.agg (ay b),.bK [.int .i64 t]]:=fun g h1 b=>by
  have q3:V.fz (eh g) 6 (.ptr T 0 0)=some (.bK [.int .i64 t]):=rC (sz:=1) (rows:=[[.int .i64 t]]) (by simp[eh,h1]) rfl (by simp only[List.drop_zero,ao,aq,aK,Option.map_some])
  simp only[ao,aq,bz,yf,q3,Option.map_some]
 (try((repeat(revert hN;revert N;apply Pn.out));refine wk @Nat.zero_add ?_;(repeat(refine Pn.mk ?_;intro N hN))))
 refine .inl ⟨_,aj.x zF (tz _ hT ho),?_⟩
 refine hN _ _ ?_
 clear hN N
 by_cases h0:0<=ik (fun b:PB=>decide (b.s<t)) bs
 ·obtain⟨i,hi,DX,Su,Hu⟩:=B9 h0
  rw[DX]at *
  have Fa:decide ((i:Int)= -1)=false:=decide_eq_false (by omega)
  have Lk:IntKind.i64.wrap ((i:Int)+1)=((i+1:Nat):Int):=ax (by omega)
  obtain⟨cK,Az⟩:=sR.start (t:=t) hi (by simpa using Su) (fun x hx=>by simpa using Hu x hx)
  (try((repeat(revert hN;revert N;apply Pn.out));refine wk (tw @Fa @Lk) ?_;(repeat(refine Pn.mk ?_;intro N hN))))
  refine aH (fun m env st=>∃(j:Nat) (R:List PB),m=bs.length-j/\env 6=.int .i64 (j:Int)/\env 5=.int .i64 ((aE t (bs.take j)).length:Int)/\st.get o=some ⟨true,3,R.map ay⟩/\sR t bs j R/\j<=bs.length/\σ.next<=st.next/\∀x:Id,x.aW<σ.next->(x=o)=False->st.get x=σ.get x) (bs.length-(i+1)) ⟨i+1,bs,rfl,sd @Lk,sd @Az,sd @ho,cK,by omega,by(try dsimp only);omega,fun x _ _=>sd @Nat.zero_add⟩ ?_
  rintro m env_b st_b ⟨j,R,rfl,b6,b5,bg,hD,gm,hle,jl⟩ ec
  have b0:=ec 0 (by kernel_rfl)
  have b1:=ec 1 (by kernel_rfl)
  simp only[go_sem, ↓reduceIte,Nat.reduceEqDiff,Nat.reduceAdd,Nat.reduceSub,Nat.reduceLeDiff,reduceCtorEq]at b0 b1
  clear ec
  have bT:=(jl T Qv (by simp only[eq_iff_iff,iff_false];exact fun h=>N9 h.symm)).trans hT
  have iU:=dv (i:=o) (n:=st_b.next) (by omega)
  have SE:=dv (i:=T) (n:=st_b.next) (by omega)
  have Qt:=hD.len
  have Mr:(R.map ay).length=bs.length:=by rw[List.length_map,Qt]
  have dy:=hD.lt
  by_cases hj:(j:Int)<(bs.length:Int)
  ·have nq:j<bs.length:=by omega
   have DV:=hD.at_ nq
   have J3:=IP bs[j] t
   have J2:IntKind.i64.wrap ((j:Int)+1)=((j+1:Nat):Int):=ax (by omega)
   have ON:=hD.NA nq
   have OO:=hD.oZ nq
   generalize bs[j]=b at *
   (try((repeat(revert hN;revert N;apply Pn.out));refine wk (tw @b0 (tw @b1 (tw @b5 (tw @b6 (tw @bg (tw @hj (tw @DV (tw @ay.eq_1 (tw @iU (tw @SE @Mr)))))))))) ?_;(repeat(refine Pn.mk ?_;intro N hN))))
   refine .inl ⟨_,aj.x J3 (kf _ (sd (tw @SE @bT)) b),?_⟩
   refine hN _ _ ?_
   clear hN N
   by_cases hw:b.s<t
   ·obtain⟨Mi,Mh⟩:=ON hw
    have hd:decide (b.s<t)=true:=decide_eq_true hw
    (try((repeat(revert hN;revert N;apply Pn.out));refine wk (tw @b0 (tw @b1 (tw @b5 (tw @b6 (tw @hd @J2))))) ?_;(repeat(refine Pn.mk ?_;intro N hN))))
    refine⟨_,?_,j+1,R,rfl,sd @J2,sd (tw @b5 @Mh),sd (tw @bg @iU),Mi,by omega,by(try dsimp only);omega,fun x hx s9=>?_⟩
    ·omega
    ·have Jh:=dv (i:=x) (n:=st_b.next) (by omega)
     have:=jl x hx s9
     simp only[go_sem, ↓reduceIte,Nat.reduceEqDiff,Nat.reduceAdd,Nat.reduceSub,Nat.reduceLeDiff,reduceCtorEq,Jh,this]
   ·obtain⟨Mi,Mh⟩:=OO hw
    have hd:decide (b.s<t)=false:=decide_eq_false hw
    have Mw:((aE t (bs.take j)).length:Int)<(bs.length:Int):=by omega
    have Pz:IntKind.i64.wrap (((aE t (bs.take j)).length:Int)+1)=(((aE t (bs.take j)).length+1:Nat):Int):=ax (by omega)
    have ev:(R.map ay).set (aE t (bs.take j)).length [.int .i64 (b.a:Int),.int .i64 (b.b:Int),.int .i64 b.s]=(R.set (aE t (bs.take j)).length b).map ay:=by rw[List.map_set];rfl
    have JL:∃y,(R.map ay)[(aE t (bs.take j)).length]? =some (ay y):=⟨R[(aE t (bs.take j)).length]'(by omega),by rw[List.getElem?_map,List.getElem?_eq_getElem (by omega)];rfl⟩
    obtain⟨y,JL⟩:=JL
    rw[ay]at JL
    (try((repeat(revert hN;revert N;apply Pn.out));refine wk (tw @b0 (tw @b1 (tw @b5 (tw @b6 (tw @bg (tw @hd (tw @J2 (tw @Pz (tw @Mw (tw @ev (tw @JL (tw @iU (tw @SE @Mr))))))))))))) ?_;(repeat(refine Pn.mk ?_;intro N hN))))
    refine⟨_,?_,j+1,_,rfl,sd @J2,sd (tw @Pz @Mh),sd @ev,Mi,by omega,by(try dsimp only);omega,fun x hx s9=>?_⟩
    ·omega
    ·have Jh:=dv (i:=x) (n:=st_b.next) (by omega)
     have:=jl x hx s9
     simp only[go_sem, ↓reduceIte,Nat.reduceEqDiff,Nat.reduceAdd,Nat.reduceSub,Nat.reduceLeDiff,reduceCtorEq,Jh,this,s9]
  ·have gm:j=bs.length:=by omega
   subst gm
   have oX:=hD.pre
   rw[List.take_length]at b5 dy oX
   have Mw:((aE t bs).length:Int)<=(bs.length:Int):=by omega
   have Mx:(aE t bs).length<=bs.length:=by omega
   have nP:(aE t bs).length+(bs.length-(aE t bs).length)=bs.length:=by omega
   have Az:=mD t bs
   (try((repeat(revert hN;revert N;apply Pn.out));refine wk (tw @b0 (tw @b1 (tw @b5 (tw @b6 (tw @bg (tw @hj (tw @Mr (tw @Mw (tw @Mx (tw @nP (tw @Nat.le_refl (tw @Nat.sub_zero (tw @Int.le_refl @iU))))))))))))) ?_;(repeat(refine Pn.mk ?_;intro N hN))))
   refine gD (.inl rfl) (vs:=[.own o 0 (aE t bs).length]) (sd @Nat.zero_add) ⟨_,rfl,by simp only[go_sem, ↓reduceIte,Nat.reduceEqDiff,Nat.reduceAdd,Nat.reduceSub,Nat.reduceLeDiff,reduceCtorEq];rfl,?_,?_,by(try dsimp only);omega,fun x hx s9=>?_⟩
   ·have hm:List.take (aE t bs).length (List.map ay R)=(aE t bs).map ay:=by rw[<-List.map_take,oX]
    rw[hm,List.append_assoc,List.take_append_of_le_length (by simp),List.take_of_length_le (by simp)]
   ·have hm:List.take (aE t bs).length (List.map ay R)=(aE t bs).map ay:=by rw[<-List.map_take,oX]
    rw[hm]
    simp only[List.length_append,List.length_map]
    omega
   ·have HD:(x=o)=False:=by simp only[eq_iff_iff,iff_false];exact s9
    have:=jl x hx HD
    simp only[go_sem, ↓reduceIte,Nat.reduceEqDiff,Nat.reduceAdd,Nat.reduceSub,Nat.reduceLeDiff,reduceCtorEq,HD,this]
 ·have hn:=B8 h0
  have cK:=sP (t:=t) (bs:=bs) fun b hb=>by simpa using hn b hb
  have hd:decide (ik (fun b:PB=>decide (b.s<t)) bs= -1)=true:=decide_eq_true (by
   unfold ik at h0 ⊢
   split
   ·rename_i h;rw[if_pos h]at h0;omega
   ·rfl)
  (try((repeat(revert hN;revert N;apply Pn.out));refine wk @hd ?_;(repeat(refine Pn.mk ?_;intro N hN))))
  refine gD (.inl rfl) (vs:=[.own o 0 bs.length]) (sd @Nat.zero_add) ⟨bs.map ay,by rw[cK];rfl,sd @ho,by rw[cK,List.take_of_length_le (by simp)],by rw[cK];simp,by(try dsimp only);omega,fun x _ _=>rfl⟩
end Go.Proofs.YtgoelphibofcmaaGreat.V

namespace Go.Proofs.YtgoelphibofcmaaGreat.V
open Go.RowKit
attribute [local irreducible] dI wpOps ib Call
attribute [local go_sem] aJ gu eW gR gQ cE upd cw K.av cY AV.cells AV.cell rowOf rowsOf part ld rowAt bB cr dY eG jq bP dq eT gP fx dE eK dn dm eu ew bU bp db bR de dc eI eL eJ da cm dp eH bQ aO di cI jo bE cU bV aY du aV ea AV.undef bG bJ eA eE ei ep cJ eR eV cG eO eM dh dj List.getD_cons_zero List.getD_cons_succ List.getD_nil List.all_cons List.all_nil Bool.and_true Bool.true_and Bool.and_self Bool.not_true Bool.not_false Option.map_some Option.map_none Option.bind_some Option.bind_none List.length_cons List.length_nil List.take_succ_cons List.take_zero List.take_nil List.drop_succ_cons List.drop_zero List.drop_nil List.head?_cons List.map_cons List.map_nil List.getElem?_cons_zero List.getElem?_cons_succ List.cons_append List.nil_append List.append_nil List.length_map List.set_cons_zero List.set_cons_succ Nat.reduceMul eq_self Int.toNat_natCast Int.natCast_nonneg and_self true_and and_true decide_true decide_false Bool.false_eq_true Nat.zero_add Nat.add_zero List.contains_cons List.contains_nil Bool.or_false Bool.false_or beq_self_eq_true Nat.reduceBEq ne_eq not_true_eq_false not_false_eq_true Id.mk.injEq false_and and_false Nat.reduceLT Int.reduceLE Int.reduceLT Int.reduceToNat Int.reduceNeg Int.reduceAdd Nat.le_refl List.length_append beq_true beq_false Bool.not_eq_eq_eq_not or_false false_or eh ao aq aK br bI cC bc bz aQ bt cX cj
theorem ET (s:aC) (hS:jw s.aB s.aX.ah) (l:List ae) (hA:gK l) (ps X:List ai) (hl:ps.length<=1048576) (o A S:Id) (σ:ar) (ho:σ.get o=some ⟨true,2,(ps++X).map aa⟩) (QF:σ.get A=some ⟨true,1,[[.sl (l.map ad)]]⟩) (hgS:σ.get S=some ⟨true,4,[aw s]⟩) (lO:o.aW<σ.next) (hAv:A.aW<σ.next) (hSv:S.aW<σ.next) (hoA:o≠A) (hoS:o≠S):
  Call Tryz.prog 114 [.own o 0 ps.length,.fn 116 [.ptr A 0 0,.ptr S 0 0]] σ fun r σ'=>∃rows,r=.own o 0 (eb (e8 s l) ps).length/\σ'.get o=some ⟨true,2,rows⟩/\rows.take (eb (e8 s l) ps).length=(eb (e8 s l) ps).map aa/\(eb (e8 s l) ps).length<=rows.length/\σ.next<=σ'.next/\∀i:Id,i.aW<σ.next->i≠o->σ'.get i=σ.get i:=by
 refine gT ej rfl fun mm=>?_
 clear mm
 have zF:=Fh s hS l hA ps hl
 have hzA:∀(g:Rows) (n:Nat),g A=some ⟨true,1,[[.sl (l.map ad)]]⟩->V.fz (eh g) (n+1+1) (.ptr A 0 0)=some (.bK [.sl (l.map ad)]):=fun g n hg=>rC (sz:=1) (rows:=[[.sl (l.map ad)]]) (by simp[eh,hg]) rfl (by simp only[List.drop_zero,ao,aq,cC,Option.map_some])
 have hzS:∀(g:Rows) (n:Nat),g S=some ⟨true,4,[aw s]⟩->V.fz (eh g) (n+1+1) (.ptr S 0 0)=some (.bK (aw s)):=fun g n hg=>rC (sz:=4) (rows:=[aw s]) (by simp[eh,hg]) rfl (by simp only[aw,List.drop_zero,ao,aq,cC,aK,Option.map_some])
 have tz:∀(g:Rows),g A=some ⟨true,1,[[.sl (l.map ad)]]⟩->g S=some ⟨true,4,[aw s]⟩->g o=some ⟨true,2,(ps++X).map aa⟩->cH (eh g) 6 [.own o 0 ps.length,.fn 116 [.ptr A 0 0,.ptr S 0 0]]=some [.sl (ps.map aa),.fn 116 [.bK [.sl (l.map ad)],.bK (aw s)]]:=fun g h1 h2 h3=>by
  have q1:V.fz (eh g) 6 (.own o 0 ps.length)=some (.sl (ps.map aa)):=by
   rw[il]
   have:eh g o=some ⟨true,2,(ps++X).map aa⟩:=by simp[eh,h3]
   simp only[this,if_true]
   have h4:((ps++X).map aa).take ps.length=ps.map aa:=by rw[<-List.map_take,List.take_append_of_le_length (Nat.le_refl _),List.take_length]
   rw[if_pos (by simp),List.drop_zero,h4,mi fun x=>by simp only[aa,ao,aq,aK,Option.map_some]];rfl
  have q2:=hzA g 3 h1
  have q3:=hzS g 3 h2
  simp only[ao,aq,q1,cX,List.all_cons,List.all_nil,AV.cell,Bool.and_true,if_true,q2,q3,Option.map_some]
 have kf:∀(g:Rows),g A=some ⟨true,1,[[.sl (l.map ad)]]⟩->g S=some ⟨true,4,[aw s]⟩->∀b:ai,cH (eh g) 6 [.agg (aa b),.ptr A 0 0,.ptr S 0 0]=some [.agg (aa b),.bK [.sl (l.map ad)],.bK (aw s)]:=fun g h1 h2 b=>by
  have q2:=hzA g 4 h1
  have q3:=hzS g 4 h2
  simp only[ao,aq,bz,aa,aK,q2,q3,Option.map_some]
 have ml:(ps++X).length=ps.length+X.length:=List.length_append
 have mV:∀j,j<=ps.length->(ps++X).take j=ps.take j:=fun j hj=>List.take_append_of_le_length hj
 have ox:∀j (hj:j<ps.length),(ps++X)[j]'(by rw[ml];omega)=ps[j]:=fun j hj=>List.getElem_append_left hj
 (try((repeat(revert hN;revert N;apply Pn.out));refine wk @Nat.zero_add ?_;(repeat(refine Pn.mk ?_;intro N hN))))
 refine .inl ⟨_,aj.x zF (tz _ QF hgS ho),?_⟩
 refine hN _ _ ?_
 clear hN N
 by_cases h0:0<=ik (e8 s l) ps
 ·obtain⟨i,hi,DX,Su,Hu⟩:=Cb h0
  rw[DX]at *
  have Fa:decide ((i:Int)= -1)=false:=decide_eq_false (by omega)
  have Lk:IntKind.i64.wrap ((i:Int)+1)=((i+1:Nat):Int):=ax (by omega)
  obtain⟨cK,Az⟩:=Gf.start (p:=e8 s l) (bs:=ps++X) (i:=i) (by rw[ml];omega) (by rw[ox i hi];exact Su) (fun x hx=>by rw[ox x (by omega)];exact Hu x hx)
  (try((repeat(revert hN;revert N;apply Pn.out));refine wk (tw @Fa @Lk) ?_;(repeat(refine Pn.mk ?_;intro N hN))))
  refine aH (fun m env st=>∃(j:Nat) (R:List ai),m=ps.length-j/\env 6=.int .i64 (j:Int)/\env 5=.int .i64 ((eb (e8 s l) (ps.take j)).length:Int)/\st.get o=some ⟨true,2,R.map aa⟩/\Gf (e8 s l) (ps++X) j R/\j<=ps.length/\σ.next<=st.next/\∀x:Id,x.aW<σ.next->(x=o)=False->st.get x=σ.get x) (ps.length-(i+1)) ⟨i+1,ps++X,rfl,sd @Lk,by rw[<-mV (i+1) (by omega)];simp only[go_sem, ↓reduceIte,Nat.reduceEqDiff,Nat.reduceAdd,Nat.reduceSub,Nat.reduceLeDiff,reduceCtorEq,Az],sd @ho,cK,by omega,by(try dsimp only);omega,fun x _ _=>sd @Nat.zero_add⟩ ?_
  rintro m env_b st_b ⟨j,R,rfl,b6,b5,bg,hD,gm,hle,jl⟩ ec
  have b0:=ec 0 (by kernel_rfl)
  have b1:=ec 1 (by kernel_rfl)
  simp only[go_sem, ↓reduceIte,Nat.reduceEqDiff,Nat.reduceAdd,Nat.reduceSub,Nat.reduceLeDiff,reduceCtorEq]at b0 b1
  clear ec
  have bA:=(jl A hAv (by simp only[eq_iff_iff,iff_false];exact fun h=>hoA h.symm)).trans QF
  have bS:=(jl S hSv (by simp only[eq_iff_iff,iff_false];exact fun h=>hoS h.symm)).trans hgS
  have iU:=dv (i:=o) (n:=st_b.next) (by omega)
  have hvA:=dv (i:=A) (n:=st_b.next) (by omega)
  have hvS:=dv (i:=S) (n:=st_b.next) (by omega)
  have Qt:=hD.len
  rw[ml]at Qt
  have Mr:(R.map aa).length=ps.length+X.length:=by rw[List.length_map,Qt]
  have dy:=hD.lt
  by_cases hj:(j:Int)<(ps.length:Int)
  ·have nq:j<ps.length:=by omega
   have R9:j<(ps++X).length:=by omega
   have DV:=hD.at_ R9
   have J3:=Bv s hS l hA (ps++X)[j]
   have J2:IntKind.i64.wrap ((j:Int)+1)=((j+1:Nat):Int):=ax (by omega)
   have ON:=hD.NA R9
   have OO:=hD.oZ R9
   rw[mV j (by omega)]at ON OO dy
   rw[mV (j+1) (by omega)]at ON OO
   generalize (ps++X)[j]=b at *
   (try((repeat(revert hN;revert N;apply Pn.out));refine wk (tw @b0 (tw @b1 (tw @b5 (tw @b6 (tw @bg (tw @hj (tw @DV (tw @aa.eq_1 (tw @iU (tw @hvA (tw @hvS @Mr))))))))))) ?_;(repeat(refine Pn.mk ?_;intro N hN))))
   refine .inl ⟨_,aj.x J3 (kf _ (sd (tw @hvA @bA)) (sd (tw @hvS @bS)) b),?_⟩
   refine hN _ _ ?_
   clear hN N
   cases hw:e8 s l b
   ·obtain⟨Mi,Mh⟩:=OO hw
    have Mw:((eb (e8 s l) (ps.take j)).length:Int)<(ps.length:Int):=by omega
    have Pz:IntKind.i64.wrap (((eb (e8 s l) (ps.take j)).length:Int)+1)=(((eb (e8 s l) (ps.take j)).length+1:Nat):Int):=ax (by omega)
    have ev:(R.map aa).set (eb (e8 s l) (ps.take j)).length [.int .i64 b.eB,.int .i64 b.ek]=(R.set (eb (e8 s l) (ps.take j)).length b).map aa:=by rw[List.map_set];rfl
    have JL:∃y,(R.map aa)[(eb (e8 s l) (ps.take j)).length]? =some (aa y):=⟨R[(eb (e8 s l) (ps.take j)).length]'(by omega),by rw[List.getElem?_map,List.getElem?_eq_getElem (by omega)];rfl⟩
    obtain⟨y,JL⟩:=JL
    rw[aa]at JL
    (try((repeat(revert hN;revert N;apply Pn.out));refine wk (tw @b0 (tw @b1 (tw @b5 (tw @b6 (tw @bg (tw @hw (tw @J2 (tw @Pz (tw @Mw (tw @ev (tw @JL (tw @iU @Mr)))))))))))) ?_;(repeat(refine Pn.mk ?_;intro N hN))))
    refine⟨_,?_,j+1,_,rfl,sd @J2,sd (tw @Pz @Mh),sd @ev,Mi,by omega,by(try dsimp only);omega,fun x hx s9=>?_⟩
    ·omega
    ·have Jh:=dv (i:=x) (n:=st_b.next) (by omega)
     have:=jl x hx s9
     simp only[go_sem, ↓reduceIte,Nat.reduceEqDiff,Nat.reduceAdd,Nat.reduceSub,Nat.reduceLeDiff,reduceCtorEq,Jh,this,s9]
   ·obtain⟨Mi,Mh⟩:=ON hw
    (try((repeat(revert hN;revert N;apply Pn.out));refine wk (tw @b0 (tw @b1 (tw @b5 (tw @b6 (tw @hw @J2))))) ?_;(repeat(refine Pn.mk ?_;intro N hN))))
    refine⟨_,?_,j+1,R,rfl,sd @J2,sd (tw @b5 @Mh),sd (tw @bg @iU),Mi,by omega,by(try dsimp only);omega,fun x hx s9=>?_⟩
    ·omega
    ·have Jh:=dv (i:=x) (n:=st_b.next) (by omega)
     have:=jl x hx s9
     simp only[go_sem, ↓reduceIte,Nat.reduceEqDiff,Nat.reduceAdd,Nat.reduceSub,Nat.reduceLeDiff,reduceCtorEq,Jh,this]
  ·have gm:j=ps.length:=by omega
   subst gm
   have oX:=hD.pre
   rw[mV _ (Nat.le_refl _)]at dy oX
   rw[List.take_length]at b5 dy oX
   have Mw:((eb (e8 s l) ps).length:Int)<=(ps.length:Int):=by omega
   have Mx:(eb (e8 s l) ps).length<=ps.length:=by omega
   have nP:(eb (e8 s l) ps).length+(ps.length-(eb (e8 s l) ps).length)=ps.length:=by omega
   have lx:ps.length<=ps.length+X.length:=by omega
   (try((repeat(revert hN;revert N;apply Pn.out));refine wk (tw @b0 (tw @b1 (tw @b5 (tw @b6 (tw @bg (tw @hj (tw @Mr (tw @Mw (tw @Mx (tw @nP (tw @lx (tw @Nat.le_refl (tw @Nat.sub_zero (tw @Int.le_refl @iU)))))))))))))) ?_;(repeat(refine Pn.mk ?_;intro N hN))))
   have hm:List.take (eb (e8 s l) ps).length (List.map aa R)=(eb (e8 s l) ps).map aa:=by rw[<-List.map_take,oX]
   refine gD (.inl rfl) (vs:=[.own o 0 (eb (e8 s l) ps).length]) (sd @Nat.zero_add) ⟨_,rfl,by simp only[go_sem, ↓reduceIte,Nat.reduceEqDiff,Nat.reduceAdd,Nat.reduceSub,Nat.reduceLeDiff,reduceCtorEq];rfl,?_,?_,by(try dsimp only);omega,fun x hx s9=>?_⟩
   ·rw[hm,List.append_assoc,List.take_append_of_le_length (by simp),List.take_of_length_le (by simp)]
   ·rw[hm]
    simp only[List.length_append,List.length_map]
    omega
   ·have HD:(x=o)=False:=by simp only[eq_iff_iff,iff_false];exact s9
    have:=jl x hx HD
    simp only[go_sem, ↓reduceIte,Nat.reduceEqDiff,Nat.reduceAdd,Nat.reduceSub,Nat.reduceLeDiff,reduceCtorEq,HD,this]
 ·have hn:=Ca h0
  have cK:=uI (p:=e8 s l) hn
  have hd:decide (ik (e8 s l) ps= -1)=true:=decide_eq_true (by
   unfold ik at h0 ⊢
   split
   ·rename_i h;rw[if_pos h]at h0;omega
   ·rfl)
  (try((repeat(revert hN;revert N;apply Pn.out));refine wk @hd ?_;(repeat(refine Pn.mk ?_;intro N hN))))
  refine gD (.inl rfl) (vs:=[.own o 0 ps.length]) (sd @Nat.zero_add) ⟨(ps++X).map aa,by rw[cK];rfl,sd @ho,by rw[cK,<-List.map_take,List.take_append_of_le_length (Nat.le_refl _),List.take_length],by rw[cK];simp,by(try dsimp only);omega,fun x _ _=>rfl⟩
end Go.Proofs.YtgoelphibofcmaaGreat.V

namespace Go.Proofs.YtgoelphibofcmaaGreat.V
open Go.RowKit
attribute [local irreducible] dI wpOps ib Call
attribute [local go_sem] aJ gu eW gR gQ cE upd cw K.av cY AV.cells AV.cell rowOf rowsOf part ld rowAt bB cr dY eG jq bP dq eT gP fx dE eK dn dm eu ew bU bp db bR de dc eI eL eJ da cm dp eH bQ aO di cI jo bE cU bV aY du aV ea AV.undef bG bJ eA eE ei ep cJ eR eV cG eO eM dh dj List.getD_cons_zero List.getD_cons_succ List.getD_nil List.all_cons List.all_nil Bool.and_true Bool.true_and Bool.and_self Bool.not_true Bool.not_false Option.map_some Option.map_none Option.bind_some Option.bind_none List.length_cons List.length_nil List.take_succ_cons List.take_zero List.take_nil List.drop_succ_cons List.drop_zero List.drop_nil List.head?_cons List.map_cons List.map_nil List.getElem?_cons_zero List.getElem?_cons_succ List.cons_append List.nil_append List.append_nil List.length_map List.set_cons_zero List.set_cons_succ Nat.reduceMul eq_self Int.toNat_natCast Int.natCast_nonneg and_self true_and and_true decide_true decide_false Bool.false_eq_true Nat.zero_add Nat.add_zero List.contains_cons List.contains_nil Bool.or_false Bool.false_or beq_self_eq_true Nat.reduceBEq ne_eq not_true_eq_false not_false_eq_true Id.mk.injEq false_and and_false Nat.reduceLT Int.reduceLE Int.reduceLT Int.reduceToNat Int.reduceNeg Int.reduceAdd Nat.le_refl List.length_append beq_true beq_false Bool.not_eq_eq_eq_not or_false false_or eh ao aq aK br bI cC bc bz aQ bt cX cj
theorem sN:∀ps:List ai,∃qs,kR qs/\(∀x,x∈qs↔x∈ps)/\qs.length<=ps.length
 |[]=>⟨[],List.Pairwise.nil,fun x=>Iff.rfl,Nat.le_refl _⟩
 |p::r=>by
  obtain⟨qs,h1,h2,h3⟩:=sN r
  exact⟨mA qs p,ve h1 p,fun x=>by rw[qz,h2,List.mem_cons],by have:=vd qs p;rw[List.length_cons];omega⟩
theorem LO {l:List ae} (hR:tP l) {j:Nat} (hj:j<l.length):fG l (aG l j).aF=(aG l j).aN:=by
 have h0:0<=dZ l (aG l j).aF:=by
  rcases Int.lt_or_le (dZ l (aG l j).aF) 0 with h|h
  ·exact absurd rfl (uG.1 h _ (gy hj))
  ·exact h
 obtain⟨h1,h2⟩:=lj h0
 have h3:(dZ l (aG l j).aF).toNat=j:=by
  rcases Nat.lt_trichotomy (dZ l (aG l j).aF).toNat j with h|h|h
  ·have:=hR _ _ h hj
   rw[h2,mo]at this;cases this
  ·exact h
  ·have:=hR _ _ h h1
   rw[h2,mo]at this;cases this
 rw[fG,if_pos h0,h3]
theorem sJ (s:aC) (l:List ae) (x:ai):∀i,x∈dM s l i↔x∈uU l∨∃j,j<i/\x=(aG l j).aF/\fG s.aX.ah x≠(aG l j).aN
 |0=>by simp[dM]
 |i+1=>by
  have ih:=sJ s l x i
  rw[dM]
  split
  ·rename_i h
   rw[ih]
   constructor
   ·rintro(h1|⟨j,h1,h2⟩)
    ·exact .inl h1
    ·exact .inr ⟨j,by omega,h2⟩
   ·rintro(h1|⟨j,h1,h2,h3⟩)
    ·exact .inl h1
    ·by_cases hj:j=i
     ·subst hj;rw[h2]at h3;exact absurd h h3
     ·exact .inr ⟨j,by omega,h2,h3⟩
  ·rename_i h
   rw[qz,ih]
   constructor
   ·rintro(h1|h1|⟨j,h1,h2⟩)
    ·exact .inr ⟨i,by omega,h1,by rw[h1];exact h⟩
    ·exact .inl h1
    ·exact .inr ⟨j,by omega,h2⟩
   ·rintro(h1|⟨j,h1,h2,h3⟩)
    ·exact .inr (.inl h1)
    ·by_cases hj:j=i
     ·subst hj;exact .inl h2
     ·exact .inr (.inr ⟨j,by omega,h2,h3⟩)
theorem Fs {p:ai->Bool} {qs:List ai} (h:kR qs):kR (eb p qs):=List.Pairwise.sublist List.filter_sublist h
theorem CG (s:aC) (l:List ae) (hA:jw s.aB l) {qs:List ai} (hR:kR qs) (hm:∀x,x∈qs↔x∈kP l):eb (e8 s l) qs=cz s l:=by
 refine y8 (Fs hR) (k8 s l _) fun x=>?_
 unfold eb cz
 rw[List.mem_filter,hm,tE,sJ,xC]
 unfold Gw
 constructor
 ·rintro⟨⟨t,ht,h1⟩,h2⟩
  by_cases h0:dZ l x<0
  ·left
   rcases h1 with h1|⟨k,hk,h1,h3⟩
   ·exact absurd h1.symm (uG.1 h0 t ht)
   ·obtain⟨i,hi,rfl⟩:=List.getElem_of_mem ht
    exact⟨h3,h0,i,k,hi,hk,by rw[iE hi];exact h1⟩
  ·right
   obtain⟨h4,h5⟩:=lj (l:=l) (p:=x) (by omega)
   refine⟨_,h4,h5.symm,fun e=>?_⟩
   have h6:fG l x=(aG l (dZ l x).toNat).aN:=by rw[fG,if_pos (by omega)]
   have h7:=hA.2 _ (gy h4)
   have h8:=(dP h7).1
   simp[e8,h6,e]at h2
   omega
 ·rintro(⟨h1,h2,i,d,h3,h4,h5⟩|⟨j,h1,h2,h3⟩)
  ·refine⟨⟨aG l i,gy h3,.inr ⟨d,h4,h5,h1⟩⟩,?_⟩
   have h6:fG l x= -1:=by rw[fG,if_neg (by omega)]
   simp[e8,h6]
  ·refine⟨⟨aG l j,gy h1,.inl h2⟩,?_⟩
   have h6:fG l x=(aG l j).aN:=by rw[h2];exact LO hA.1.FQ h1
   simp[e8,h6,h3]
theorem KK (s:aC) (hP:wb s) (l:List ae) (hA:jw s.aB l) (h0:l≠[]) (σ:ar):Call Tryz.prog 70 [.agg (aw s),.agg [.sl (l.map ad)]] σ (fun r σ'=>KU σ.next (r7 s l (cz s l)) r σ'.get σ'.next):=by
 refine gT ej rfl fun mm=>?_
 clear mm
 obtain⟨qs,hR,hm,hqa⟩:=sN (kP l)
 have QH:=CG s l hA hR hm
 have An:=hA.1.so
 have Sw:qs.length<=10000:=by have:=te l;omega
 (try((repeat(revert hN;revert N;apply Pn.out));refine wk @aw.eq_1 ?_;(repeat(refine Pn.mk ?_;intro N hN))))
 refine .inr (aU _ _ _ _ _ (fun r σ1 hq=>?_) (yU s hP.set l hA _))
 obtain⟨g1,x1⟩:=σ1
 obtain⟨c,T,O,rfl,hC,RU,Qv,hOv,iR,jl⟩:=hq
 (try dsimp only at hC RU Qv hOv iR jl)
 have f1:=jl ⟨70000000,σ.next⟩ (by(try dsimp only);omega)
 have f2:=jl ⟨70000001,σ.next⟩ (by(try dsimp only);omega)
 simp only[go_sem, ↓reduceIte,Nat.reduceEqDiff,Nat.reduceAdd,Nat.reduceSub,Nat.reduceLeDiff,reduceCtorEq]at f1 f2
 refine hN _ _ ?_
 clear hN N
 (try((repeat(revert hN;revert N;apply Pn.out));refine wk (tw @f1 @f2) ?_;(repeat(refine Pn.mk ?_;intro N hN))))
 have K2:ph (bB (bB g1 ⟨70001003,x1⟩ ⟨true,1,[[.gx]]⟩) ⟨70001003,x1⟩ ⟨true,1,[[.ptr c 0 0]]⟩) (x1+1+1) c T O s l:=hC.frame (by omega) fun x hx=>by
  have h1:=dv hx
  simp only[go_sem, ↓reduceIte,Nat.reduceEqDiff,Nat.reduceAdd,Nat.reduceSub,Nat.reduceLeDiff,reduceCtorEq,h1]
 refine .inr (aU _ _ _ _ _ (fun r σ2 hq=>?_) (GF (σ:=⟨bB (bB g1 ⟨70001003,x1⟩ ⟨true,1,[[.gx]]⟩) ⟨70001003,x1⟩ ⟨true,1,[[.ptr c 0 0]]⟩,x1+1+1⟩) K2 hA.1 h0 qs hR hm))
 obtain⟨g2,x2⟩:=σ2
 obtain⟨o,X,rfl,ho,lO,QS,Pk,uw,hT2⟩:=hq
 (try dsimp only at ho lO QS Pk uw hT2)
 have Mx:=hC.cv
 have hTn:=hC.tv
 have hOn:=hC.ov
 have nT:∀x:Id,x.aW<T.aW∨T.aW<x.aW->x≠T:=fun x h e=>by subst e;omega
 have gS:=uw ⟨70000000,σ.next⟩ (by(try dsimp only);omega) (nT _ (by(try dsimp only);omega))
 have gA:=uw ⟨70000001,σ.next⟩ (by(try dsimp only);omega) (nT _ (by(try dsimp only);omega))
 have gC:=uw ⟨70001003,x1⟩ (by(try dsimp only);omega) (nT _ (by(try dsimp only);omega))
 have gc:=(uw c (by omega) hC.cT).trans K2.row
 simp only[go_sem, ↓reduceIte,Nat.reduceEqDiff,Nat.reduceAdd,Nat.reduceSub,Nat.reduceLeDiff,reduceCtorEq,f1,f2]at gS gA gC
 refine hN _ _ ?_
 clear hN N
 (try((repeat(revert hN;revert N;apply Pn.out));refine wk (tw @gS (tw @gA @gC)) ?_;(repeat(refine Pn.mk ?_;intro N hN))))
 refine .inr (aU _ _ _ _ _ (fun r σ3 hq=>?_) (ET s hP.Bc l hA.1 qs X (by omega) o ⟨70000001,σ.next⟩ ⟨70000000,σ.next⟩ ⟨g2,_⟩ ho gA (by rw[aw];exact gS) (by(try dsimp only);omega) (by(try dsimp only);omega) (by(try dsimp only);omega) (fun e=>by rw[e]at lO;(try dsimp only at lO);omega) (fun e=>by rw[e]at lO;(try dsimp only at lO);omega)))
 obtain⟨g3,x3⟩:=σ3
 obtain⟨rows,rfl,Rr,Rs,h3l,Sj,E7⟩:=hq
 (try dsimp only at Rr Rs h3l Sj E7)
 have kQ:=Fq (e8 s l) qs
 rw[QH]at Rs h3l kQ ⊢
 have oS:(⟨70000000,σ.next⟩:Id)≠o:=fun e=>by rw[<-e]at lO;(try dsimp only at lO);omega
 have oA:(⟨70000001,σ.next⟩:Id)≠o:=fun e=>by rw[<-e]at lO;(try dsimp only at lO);omega
 have oC:(⟨70001003,x1⟩:Id)≠o:=fun e=>by rw[<-e]at lO;(try dsimp only at lO);omega
 have oc:c≠o:=fun e=>by rw[<-e]at lO;omega
 have oT:T≠o:=fun e=>by rw[<-e]at lO;omega
 have kS:=(E7 ⟨70000000,σ.next⟩ (by(try dsimp only);omega) oS).trans gS
 have kA:=(E7 ⟨70000001,σ.next⟩ (by(try dsimp only);omega) oA).trans gA
 have kC:=(E7 ⟨70001003,x1⟩ (by(try dsimp only);omega) oC).trans gC
 have kc:=(E7 c (by omega) oc).trans gc
 have kT:=(E7 T (by omega) oT).trans hT2
 refine hN _ _ ?_
 clear hN N
 (try((repeat(revert hN;revert N;apply Pn.out));refine wk (tw @kS (tw @kA @kC)) ?_;(repeat(refine Pn.mk ?_;intro N hN))))
 have nO:rows=(cz s l).map aa++rows.drop (cz s l).length:=by rw[<-Rs,List.take_append_drop]
 rw[nO]at Rr
 refine .inr (aU _ _ _ _ _ (fun r σ4 hq=>?_) (F5 (σ:=⟨g3,_⟩) (T:=T) (O:=O) (s:=s) (l:=l) ⟨⟨_,kA⟩,⟨_,by rw[aw];exact kS⟩,⟨_,kC⟩,⟨⟨_,kc⟩,⟨_,kT⟩,by(try dsimp only);omega,by(try dsimp only);omega,by(try dsimp only);omega⟩,by(try dsimp only);omega,by(try dsimp only);omega,by(try dsimp only);omega⟩ hP.set hA (cz s l) (rows.drop (cz s l).length) (by omega) (mh s hA.1 _ (Nat.le_refl _)) o (by(try dsimp only);omega) Rr))
 obtain⟨g4,x4⟩:=σ4
 (try dsimp only at hq)
 refine hN _ _ ?_
 clear hN N
 rcases hq with⟨h2,h3⟩|⟨u,h2,h3,h4,h5,h6,h8⟩
 ·subst h3
  (try((repeat(revert hN;revert N;apply Pn.out));refine wk @Nat.zero_add ?_;(repeat(refine Pn.mk ?_;intro N hN))))
  exact gD (.inl rfl) (vs:=[.cu]) (sd @Nat.zero_add) (.inl ⟨h2,rfl⟩)
 ·subst h2
  (try((repeat(revert hN;revert N;apply Pn.out));refine wk @Nat.zero_add ?_;(repeat(refine Pn.mk ?_;intro N hN))))
  exact gD (.inl rfl) (vs:=[.own u 0 (r7 s l (cz s l)).length]) (sd @Nat.zero_add) (.inr ⟨u,rfl,h3,by omega,by(try dsimp only);omega,h6,h8⟩)
end Go.Proofs.YtgoelphibofcmaaGreat.V

namespace Go.Proofs.YtgoelphibofcmaaGreat.V
open Go.RowKit Go.Shelf
attribute [local go_sem] Oper.semAt_some
structure oP (W:World) (v:Value) (l:List ae):Prop where
 sl:∃A c,v=.slice A l.length c/\(l.length<=c/\c<=maxLen)/\(l=[]∨∃b o,A=some ⟨b,o,none⟩/\∀i,i<l.length->W.cell? ⟨b,o+(i*3+0),none⟩=some (.int .i64 (aG l i).aF.eB)/\W.cell? ⟨b,o+(i*3+1),none⟩=some (.int .i64 (aG l i).aF.ek)/\W.cell? ⟨b,o+(i*3+2),none⟩=some (.int .i64 (aG l i).aN))
structure Gv (K:World->World->Prop) (v:Value) (l:List ae):Prop where
 refl:∀W,K W W
 trans:∀{A B C:World},K A B->K B C->K A C
 of:∀{W W':World},Below W.heap.size W W'->K W W'
 size:∀{W W':World},K W W'->W.heap.size<=W'.heap.size
 typed:∀{W W':World},K W W'->∀(b:Nat) (cells:Array Value) (T:TypeId) (fr:Nat×Nat),W.heap[b]? =some (Obj.cells cells T fr)->T≠226->T≠246->W'.heap[b]? =W.heap[b]?
 pl:∀{W W':World},K W W'->oP W v l->oP W' v l
theorem th {W:World} {b x:Nat} {v:Value} (h:W.cell? ⟨b,x,none⟩=some v):b<W.heap.size:=by
 rcases Nat.lt_or_ge b W.heap.size with h1|h1
 ·exact h1
 ·simp[World.cell?,Array.getElem?_eq_none h1]at h
theorem oP.below {W W':World} {v:Value} {l:List ae} (h:oP W v l) (k:Below W.heap.size W W'):oP W' v l:=by
 obtain⟨A,c,rfl,hm,hc⟩:=h.sl
 refine⟨A,c,rfl,hm,?_⟩
 rcases hc with h0|⟨b,o,rfl,j4⟩
 ·exact .inl h0
 ·refine .inr ⟨b,o,rfl,fun i hi=>?_⟩
  obtain⟨h1,h2,h3⟩:=j4 i hi
  have hb:=th h1
  exact⟨(k.cell (p:=⟨b,_,none⟩) hb).trans h1,(k.cell (p:=⟨b,_,none⟩) hb).trans h2,(k.cell (p:=⟨b,_,none⟩) hb).trans h3⟩
theorem oP.eD {P:Program} {W:World} {v:Value} {l:List ae} (h:oP W v l):jr P W (fun b=>b<W.heap.size) (.sl (l.map ad)) v:=by
 obtain⟨A,c,rfl,hm,hc⟩:=h.sl
 rcases hc with rfl|⟨b,o,rfl,j4⟩
 ·exact .C9 A c (by simpa using hm.2)
 by_cases Aq:l=[]
 ·subst Aq;exact .C9 _ c (by simpa using hm.2)
 ·have kW:0<l.length:=List.length_pos_iff.2 Aq
  have hb:=th (j4 0 kW).1
  refine .sl (l.map ad) b o l.length c 3 (fun i j=>if j=0 then .int .i64 (aG l i).aF.eB else if j=1 then .int .i64 (aG l i).aF.ek else .int .i64 (aG l i).aN) (by simp) hm.1 hm.2 hb (fun cs cR=>?_) (fun cs cR a ha=>?_) (fun i j hi hj=>?_) (fun i j cs a hi hj=>?_)
  ·obtain⟨x,_,rfl⟩:=List.mem_map.1 cR;rfl
  ·obtain⟨x,_,rfl⟩:=List.mem_map.1 cR
   simp[ad]at ha
   rcases ha with rfl|rfl|rfl<;>rfl
  ·obtain⟨h1,h2,h3⟩:=j4 i hi
   match j,hj with
   |0,_=>exact h1
   |1,_=>exact h2
   |2,_=>exact h3
   |j+3,hj=>omega
  ·have lv:i<l.length:=by have:=(List.getElem?_eq_some_iff.1 hi).1;simpa using this
   rw[fh lv]at hi
   injection hi with hi
   subst hi
   match j,hj with
   |0,hj=>simp[ad]at hj;subst hj;exact .int _ _
   |1,hj=>simp[ad]at hj;subst hj;exact .int _ _
   |2,hj=>simp[ad]at hj;subst hj;exact .int _ _
   |j+3,hj=>simp[ad]at hj
theorem zV {P:Program} (hm:P.follows .mixedOrders=true) {f:Nat} {args:List AV} {vs:Array Value} {w:World} {r:AV} (h:aj P f args r) (hr:∀g r0,fX g 6 r0=some r->r0=r) (hA:fa P w (fun b=>b<w.heap.size) (fun _=>none) args vs):
  Calls P f vs w fun e w'=>∃D ι u,e=.returned u/\cq P w' D ι r u/\Below w.heap.size w w':=by
 have hs:=gY hm (h 0) w.heap.size (fun b=>b<w.heap.size) (fun _=>none) w vs ⟨Nat.le_refl _,fun _ h=>h,fun id r h=>(by cases h),fun id jR r r' B B' h=>(by cases h)⟩ (fun id h=>absurd rfl h) hA
 refine hs.mono ?_
 rintro e w' ⟨r0,g',n',D',ι',u,rfl,⟨r',hz,rfl⟩,cK,hsim,_,_,gj⟩
 have:=hr _ _ hz
 subst this
 exact⟨D',ι',u,rfl,gj,cK.below⟩
theorem nN {g:Rows} {n:Nat} {a:AV} {k:IntKind} {m:Int} (h:fX g (n+1) a=some (.int k m)):a=.int k m:=by
 cases a<;>rw[fX]at h<;>simp_all
 all_goals (repeat' (split at h))<;>simp_all
theorem Cj {g:Rows} {a:AV} {x y:Int} (h:fX g 6 a=some (.agg [.int .i64 x,.int .i64 y])):a=.agg [.int .i64 x,.int .i64 y]:=by
 cases a with
 |agg cs=>
  rw[yh]at h
  simp only[Option.map_eq_some_iff,AV.agg.injEq,exists_eq_right]at h
  match cs,h with
  |[],h=>rw[bx]at h;simp at h
  |[a],h=>
   rw[aP,bx]at h
   cases ha:fX g 5 a<;>simp[ha]at h
  |[a,b],h=>
   rw[aP,aP,bx]at h
   cases ha:fX g 5 a<;>cases hb:fX g 5 b<;>simp[ha,hb]at h
   obtain⟨rfl,rfl⟩:=h
   rw[nN ha,nN hb]
  |a::b::c::r,h=>
   rw[aP,aP,aP]at h
   cases ha:fX g 5 a<;>cases hb:fX g 5 b<;>cases hc:fX g 5 c<;>cases hd:dS g 5 r<;>simp[ha,hb,hc,hd]at h
 |_=>rw[fX]at h<;>simp_all<;>(repeat' (split at h))<;>simp_all
theorem Db (W:World) (p:ai) (d:Int) (hd:iM d 0 3=true) (hx:iB p.eB) (hy:iB p.ek):Calls Tryz.prog 149 #[.agg #[.int .i64 p.eB,.int .i64 p.ek],.int .i64 d] W fun e W'=>e=.returned (.agg #[.int .i64 (bF p d).eB,.int .i64 (bF p d).ek])/\Below W.heap.size W W':=by
 refine(zV mixed (vH p d hd hx hy) (fun g r0 h=>Cj h) ?_:Calls _ _ _ _ _).mono ?_
 ·exact lT (vs:= #[.int .i64 d]) (.agg _ _ (fun j=>if j=0 then .int .i64 p.eB else .int .i64 p.ek) rfl (fun a ha=>by simp[aa]at ha;rcases ha with rfl|rfl<;>rfl) (fun j hj=>by match j,hj with|0,_=>rfl|1,_=>rfl|j+2,hj=>simp[aa]at hj;omega) (fun j a ha=>by match j,ha with|0,ha=>simp[aa]at ha;subst ha;exact .int _ _|1,ha=>simp[aa]at ha;subst ha;exact .int _ _|j+2,ha=>simp[aa]at ha)) (lT (vs:= #[]) (.int _ _) vk)
 ·rintro e W' ⟨D,ι,u,rfl,hr,hB⟩
  refine⟨?_,hB⟩
  obtain⟨vs,f,rfl,e5,_,h1,h2⟩:=jg hr
  have v0:=h1 0 (by simp[aa])
  have v1:=h1 1 (by simp[aa])
  rw[cV (h2 0 _ rfl)]at v0
  rw[cV (h2 1 _ rfl)]at v1
  obtain⟨vl⟩:=vs
  match vl,e5 with
  |[a,b],_=>
   simp at v0 v1
   rw[v0,v1]
theorem wI (W:World) (l:List ae) (v:Value) (hP:oP W v l) (p:ai) (hR:tP l) (E5:l.length<=1048576):Calls Tryz.prog 265 #[.agg #[v],.agg #[.int .i64 p.eB,.int .i64 p.ek]] W fun e W'=>e=.returned (.int .i64 (dZ l p))/\Below W.heap.size W W':=by
 refine(zV mixed (FK l p hR E5) (fun g r0 h=>nN h) ?_:Calls _ _ _ _ _).mono ?_
 ·exact lT (vs:= #[.agg #[.int .i64 p.eB,.int .i64 p.ek]]) (.agg _ _ (fun _=>v) rfl (fun a ha=>by simp at ha;rw[ha];rfl) (fun j hj=>by match j,hj with|0,_=>rfl|j+1,hj=>simp at hj) (fun j a ha=>by match j,ha with|0,ha=>simp at ha;subst ha;exact hP.eD|j+1,ha=>simp at ha)) (lT (vs:= #[]) (.agg _ _ (fun j=>if j=0 then .int .i64 p.eB else .int .i64 p.ek) rfl (fun a ha=>by simp[aa]at ha;rcases ha with rfl|rfl<;>rfl) (fun j hj=>by match j,hj with|0,_=>rfl|1,_=>rfl|j+2,hj=>simp[aa]at hj;omega) (fun j a ha=>by match j,ha with|0,ha=>simp[aa]at ha;subst ha;exact .int _ _|1,ha=>simp[aa]at ha;subst ha;exact .int _ _|j+2,ha=>simp[aa]at ha)) vk)
 ·rintro e W' ⟨D,ι,u,rfl,hr,hB⟩
  exact⟨by rw[cV hr],hB⟩
theorem grown_of {W W':World} (h:Below W.heap.size W W'):W.grownBy W' none:=⟨h.os,h.tape,h.output,h.size,fun k hk _=>h.block k hk⟩
def AX (l:List ae) (i:Nat) (d:Int):List (Nat×Nat×Int):=if 0<=dZ l (bF (aG l i).aF d)then[(i,(dZ l (bF (aG l i).aF d)).toNat,d)]else[]
def kB (l:List ae) (i m:Nat):List (Nat×Nat×Int):=(List.range m).flatMap fun j:Nat=>AX l i (1-(j:Int))
def kY (l:List ae) (n:Nat):List (Nat×Nat×Int):=(List.range n).flatMap fun i=>kB l i 2
theorem lS (l:List ae) (n:Nat):kY l (n+1)=kY l n++kB l n 2:=by simp[kY,List.range_succ]
theorem mv (l:List ae) (i m:Nat):kB l i (m+1)=kB l i m++AX l i (1-(m:Int)):=by simp[kB,List.range_succ]
theorem M6 (l:List ae) {k m:Nat} (hk:k<l.length) (hm:m<=2):kY l k++kB l k m <+:kY l l.length:=by
 have h1:∀d,kY l k <+:kY l (k+d):=fun d=>by
  induction d with
  |zero=>exact List.prefix_refl _
  |succ d ih=>rw[<-Nat.add_assoc,lS l (k+d)];exact ih.trans (List.prefix_append _ _)
 have h2:∀d,kY l (k+1) <+:kY l (k+1+d):=fun d=>by
  induction d with
  |zero=>exact List.prefix_refl _
  |succ d ih=>rw[<-Nat.add_assoc,lS l (k+1+d)];exact ih.trans (List.prefix_append _ _)
 have h3:=h2 (l.length-(k+1))
 rw[show k+1+(l.length-(k+1))=l.length by omega,lS]at h3
 refine List.IsPrefix.trans ?_ h3
 have h4:kB l k m <+:kB l k 2:=by
  have:m=0∨m=1∨m=2:=by omega
  rcases this with rfl|rfl|rfl
  ·exact List.nil_prefix
  ·rw[mv l k 1];exact List.prefix_append _ _
  ·exact List.prefix_refl _
 exact(List.prefix_append_right_inj _).2 h4
def Ow (l:List ae) (x:Nat×Nat×Int):Prop:=x.1<l.length/\x.2.1<l.length/\(0<=x.2.2/\x.2.2<=1)
def DK (x:Nat×Nat×Int):Array Value:= #[.agg #[.int .i64 (x.1:Int),.int .i64 (x.2.1:Int)],.int .i64 x.2.2]
theorem J6 (l:List ae) (p:ai) (h:0<l.length:=by omega):dZ l p<(l.length:Int):=by
 unfold dZ
 split<;>omega
theorem PM (l:List ae) (hA:gK l) (q Ba:Nat) (vS:Value) (K:World->World->Prop) (kl:Gv K vS l) (J Jx:List (Nat×Nat×Int)->World->Prop) (n:Nat) (hn:1<=n)
  (hY:∀pre x W,J pre W->pre.length<(kY l l.length).length->Ow l x->YieldAt Fence.wide (n-1) Tryz.prog q (DK x) W fun e W'=>
   (e=.returned (.bool true)/\J (pre++[x]) W'/\K W W')∨(e=.returned (.bool false)/\Jx (pre++[x]) W'))
  (W:World) (hJ:AbidesFrom W.heap.size J) (Mf:W.heap[Ba]? =some (.cells #[vS] 41 (0,0))) (hP:oP W vS l) (h0:J [] W):
  CallsIn Fence.wide n Tryz.prog 264 #[.func (.yield q) #[] #[],.pointer (some ⟨Ba,0,none⟩)] W fun e W'=>(∃v,e=.returned v)/\
   ((∃ys,ys=kY l l.length/\J ys W')∨(∃pre,pre <+:kY l l.length/\Jx pre W')):=by
 obtain⟨A,cp,rfl,_,_⟩:=hP.sl
 refine callsIn_of_wp Tryz.func264 rfl trivial ?_ rfl
 simp only[Tryz.ntmps264,List.size_toArray,List.length_cons,List.length_nil,Nat.reduceAdd,Nat.reduceSub,Array.replicate_succ,Array.replicate_zero,List.push_toArray,List.append_toArray,List.nil_append,List.cons_append]
 have ju:W.cell? ⟨Ba,0,none⟩=some (.slice A l.length cp):=by simp[World.cell?,Mf]
 gi_wp2
 gi_loopw [11] (fun i wr=>∃k:Nat,k<=l.length/\i=.int .i64 k/\J (kY l k) wr/\K W wr)
  (fun i _=>l.length-(intOf i).toNat)
 case atStart=>exact⟨0,Nat.zero_le _,rfl,h0,kl.refl _⟩
 case round=>
  obtain⟨k,hk,rfl,hJs,hKt⟩:=hrel
  by_cases dy:k<l.length
  ·have cR:∃b o,A=some ⟨b,o,none⟩/\wr.cell? ⟨b,o+k*3,none⟩=some (.int .i64 (aG l k).aF.eB)/\wr.cell? ⟨b,o+k*3+1,none⟩=some (.int .i64 (aG l k).aF.ek)/\wr.cell? ⟨b,o+k*3+2,none⟩=some (.int .i64 (aG l k).aN):=by
    obtain⟨A',c',hv,_,hc⟩:=(kl.pl hKt hP).sl
    cases hv
    rcases hc with rfl|⟨b,o,rfl,j4⟩
    ·simp at dy
    ·obtain⟨h1,h2,h3⟩:=j4 k dy
     exact⟨b,o,rfl,by simpa using h1,by rw[Nat.add_assoc];exact h2,by rw[Nat.add_assoc];exact h3⟩
   obtain⟨b,o,rfl,hx,Q0,ht⟩:=cR
   gi_wp2
   obtain⟨W2,OR⟩:∃W2,(wr.alloc (.cells #[.int .i64 (aG l k).aF.eB,.int .i64 (aG l k).aF.ek,.int .i64 (aG l k).aN] 137)).alloc (.cells #[.int .i64 1,.int .i64 0] 2)=W2:=⟨_,rfl⟩
   have rE:Below wr.heap.size wr W2:=by rw[<-OR];exact((Below.refl _ wr).alloc (Nat.le_refl _) _).alloc (by simp) _
   have RG:W2.heap[wr.heap.size]? =some (.cells #[.int .i64 (aG l k).aF.eB,.int .i64 (aG l k).aF.ek,.int .i64 (aG l k).aN] 137 (0,0)):=by
    rw[<-OR,Below.heap_alloc _ _ _ (by simp)];exact World.alloc_heap_new _ _
   have RE:W2.heap[wr.heap.size+1]? =some (.cells #[.int .i64 1,.int .i64 0] 2 (0,0)):=by
    have:=World.alloc_heap_new (wr.alloc (.cells #[.int .i64 (aG l k).aF.eB,.int .i64 (aG l k).aF.ek,.int .i64 (aG l k).aN] 137)) (.cells #[.int .i64 1,.int .i64 0] 2)
    rw[World.size_alloc]at this
    rw[<-OR];exact this
   have Mq:K W W2:=kl.trans hKt (kl.of rE)
   have hJ2:J (kY l k++kB l k 0) W2:=by
    have:=hJ _ _ _ none hJs (grown_of rE) (fun r h=>by cases h)
    simpa[kB]using this
   rw[OR]
   clear OR
   generalize wr=w1 at *
   gi_loopw [18] (fun j wr=>∃m:Nat,m<=2/\j=.int .i64 m/\J (kY l k++kB l k m) wr/\K W2 wr)
    (fun j _=>2-(intOf j).toNat)
   case atStart=>exact⟨0,by omega,rfl,hJ2,kl.refl _⟩
   case round=>
    obtain⟨m,hm,rfl,hJm,K3⟩:=hrel
    have hm0:m=0∨m=1∨m=2:=by omega
    by_cases N7:m<2
    ·have hkd:=kl.typed K3 _ _ _ _ RE (by decide) (by decide)
     have JQ:=kl.typed K3 _ _ _ _ RG (by decide) (by decide)
     have hka:=kl.typed (kl.trans Mq K3) _ _ _ _ Mf (by decide) (by decide)
     have cd:wr.cell? ⟨w1.heap.size+1,m,none⟩=some (.int .i64 (1-(m:Int))):=by
      rw[World.cell?_of_block hkd]
      rcases hm0 with rfl|rfl|rfl
      ·simp[World.cell?,RE]
      ·simp[World.cell?,RE]
      ·omega
     have ct0:wr.cell? ⟨w1.heap.size,0,none⟩=some (.int .i64 (aG l k).aF.eB):=by rw[World.cell?_of_block JQ];simp[World.cell?,RG]
     have ct1:wr.cell? ⟨w1.heap.size,1,none⟩=some (.int .i64 (aG l k).aF.ek):=by rw[World.cell?_of_block JQ];simp[World.cell?,RG]
     have ca:wr.cell? ⟨Ba,0,none⟩=some (.slice (some ⟨b,o,none⟩) l.length cp):=by rw[World.cell?_of_block hka];simp[World.cell?,Mf]
     have hPw:oP wr (.slice (some ⟨b,o,none⟩) l.length cp) l:=kl.pl (kl.trans Mq K3) hP
     have hba:Ba<wr.heap.size:=by
      have h1:=(Array.getElem?_eq_some_iff.1 Mf).1
      have h2:=kl.size (kl.trans Mq K3)
      omega
     have JI:iM (1-(m:Int)) 0 3=true:=jc (by omega)
     have Hr:=nY (hA.pt dy)
     have Og:=fun w0=>Db w0 (aG l k).aF (1-(m:Int)) JI Hr.1 Hr.2
     have hPd:oP wr.drew (.slice (some ⟨b,o,none⟩) l.length cp) l:=hPw.below ⟨rfl,rfl,rfl,Nat.le_refl _,fun _ _=>rfl⟩
     have cad:wr.drew.cell? ⟨Ba,0,none⟩=some (.slice (some ⟨b,o,none⟩) l.length cp):=ca
     have ctd0:wr.drew.cell? ⟨w1.heap.size,0,none⟩=some (.int .i64 (aG l k).aF.eB):=ct0
     have ctd1:wr.drew.cell? ⟨w1.heap.size,1,none⟩=some (.int .i64 (aG l k).aF.ek):=ct1
     have hfw:=hA.so
     have ME:=hA.FQ
     have Se:=mixed
     gi_wp2
     gi_region_with_o (first|(refine⟨trivial,?_⟩;gi_at_call 149;refine(callsIn_wide.2 (Og _)).mono ?_;rintro e w3 ⟨rfl,Ak⟩;have ca3:=(Ak.cell (p:=⟨Ba,0,none⟩) hba).trans cad)|(refine⟨trivial,?_⟩;gi_at_call 265;refine(callsIn_wide.2 (wI _ l _ (hPd.below Ak) (bF (aG l k).aF (1-(m:Int))) ME (by omega))).mono ?_;rintro e w4 ⟨rfl,hB4⟩))
     all_goals
      have Me:Below wr.heap.size wr w4:=(show Below wr.heap.size wr wr.drew from⟨rfl,rfl,rfl,Nat.le_refl _,fun _ _=>rfl⟩).trans (Ak.trans (hB4.mono Ak.size))
      have hJ4:J (kY l k++kB l k m) w4:=hJ _ _ _ none hJm (grown_of Me) (fun r h=>by cases h)
      have oX:=M6 l dy (m:=m+1) (by omega)
      rw[mv,<-List.append_assoc]at oX
      have iR:=mv l k m
      have hw:wrap64 ((m:Int)+1)=((m+1:Nat):Int):=by unfold wrap64;omega
      by_cases yu:0<=dZ l (bF (aG l k).aF (1-(m:Int)))
      ·have fA:((dZ l (bF (aG l k).aF (1-(m:Int)))).toNat:Int)=dZ l (bF (aG l k).aF (1-(m:Int))):=by omega
       rw[AX,if_pos yu]at oX iR
       obtain⟨fn,tmps,assign,body,hy,hR⟩:=hY _ (k,(dZ l (bF (aG l k).aF (1-(m:Int)))).toNat,1-(m:Int)) w4 hJ4 (by
        have:=oX.length_le
        simp only[List.length_append,List.length_cons,List.length_nil]at this ⊢
        omega) ⟨dy,by
        have:dZ l (bF (aG l k).aF (1-(m:Int)))<(l.length:Int):=J6 _ _
        show(dZ l (bF (aG l k).aF (1-(m:Int)))).toNat<l.length
        omega,by show 0<=1-(m:Int);omega,by show 1-(m:Int)<=1;omega⟩
       simp only[DK,fA]at hy
       gi_wp2
       refine hR.mono ?_
       rintro e W3 (⟨rfl,hJ3,hk3⟩|⟨rfl,hJx3⟩)
       ·gi_wp2
        go_roundw
        case rel=>exact⟨m+1,by omega,by simp,by rw[iR,<-List.append_assoc];exact hJ3,kl.trans (kl.trans K3 (kl.of Me)) hk3⟩
        case measure=>simp[intOf];omega
       ·gi_wp2
        refine bodyPost_ret (results_none rfl _ _ _) rfl ?_
        exact⟨⟨_,rfl⟩,.inr ⟨_,oX,hJx3⟩⟩
      ·rw[AX,if_neg yu,List.append_nil]at iR
       gi_wp2
       refine⟨fun _ h=>(by cases h),?_⟩
       gi_wp2
       go_roundw
       case rel=>exact⟨m+1,by omega,by simp,by rw[iR];exact hJ4,kl.trans K3 (kl.of Me)⟩
       case measure=>simp[intOf];omega
    ·obtain rfl:m=2:=by omega
     have hfw:=hA.so
     gi_wp2
     go_roundw
     case rel=>exact⟨k+1,by omega,by simp,by rw[lS];exact hJm,kl.trans Mq K3⟩
     case measure=>simp[intOf];omega
  ·obtain rfl:k=l.length:=by omega
   gi_wp2
   go_end0
   exact⟨⟨_,rfl⟩,.inl ⟨_,rfl,hJs⟩⟩
end Go.Proofs.YtgoelphibofcmaaGreat.V

namespace Go.Proofs.YtgoelphibofcmaaGreat.V
open Go.RowKit Go.Shelf
attribute [local go_sem] Oper.semAt_some
theorem yT (n:Nat) (vS:Value) (w:World):CallsIn Fence.wide n Tryz.prog 244 #[.agg #[vS]] w fun e w'=>e=.returned (.func (.func 264) #[] #[.pointer (some ⟨w.heap.size,0,none⟩)])/\w'=w.alloc (.cells #[vS] 41):=by
 refine callsIn_of_wp Tryz.func244 rfl trivial ?_ rfl
 simp only[Tryz.ntmps244,List.size_toArray,List.length_cons,List.length_nil,Nat.reduceAdd,Nat.reduceSub,Array.replicate_succ,Array.replicate_zero,List.push_toArray,List.append_toArray,List.nil_append,List.cons_append]
 gi_wp2
 go_ret
 exact⟨rfl,rfl⟩
abbrev LF (l:List ae):Type:={x:Nat×Nat×Int // Ow l x}
theorem HS (l:List ae) (hA:gK l) (Ba n:Nat) (hn:1<=n) (vS:Value) (K:World->World->Prop) (kl:Gv K vS l) (w:World) (Mf:w.heap[Ba]? =some (.cells #[vS] 41 (0,0))) (hP:oP w vS l):
  SeqStopsK Fence.wide n Tryz.prog 264 #[.pointer (some ⟨Ba,0,none⟩)] (fun x:LF l=>DK x.1) K (fun ys=>ys.map (·.1)=kY l l.length) (fun _=>True) (kY l l.length).length w:=fun q J Jx W hW hJ _ hY h0=>by
 refine(PM l hA q Ba vS K kl (fun ys W=>∃zs:List (LF l),zs.map (·.1)=ys/\J zs W) (fun ys W=>∃zs:List (LF l),zs.map (·.1)=ys/\Jx zs W) n hn (fun pre x W1 hJ1 dy uC=>?_) W (fun s A B row ⟨zs,e,h⟩ hg hr=>⟨zs,e,hJ zs A B row h hg hr⟩) ((hW.block Ba (Array.getElem?_eq_some_iff.1 Mf).1).trans Mf) (hP.below hW) ⟨[],rfl,h0⟩).mono ?_
 ·obtain⟨zs,rfl,h1⟩:=hJ1
  refine YieldAt.mono (hY zs ⟨x,uC⟩ W1 h1 (by simpa using dy)) ?_
  rintro e W' (⟨h2,h3,h4⟩|⟨h2,h3⟩)
  ·exact .inl ⟨h2,⟨zs++[⟨x,uC⟩],by simp,h3⟩,h4⟩
  ·exact .inr ⟨h2,⟨zs++[⟨x,uC⟩],by simp,h3⟩⟩
 ·rintro e W' ⟨h1,⟨ys,rfl,zs,h2,h3⟩|⟨pre,_,zs,h2,h3⟩⟩
  ·exact⟨h1,.inl ⟨zs,h2,h3⟩⟩
  ·exact⟨h1,.inr ⟨zs,trivial,h3⟩⟩
def xX (s:au) (l:List ae) (x:Nat×Nat×Int):List PB:=if 0<gw s (aG l x.1).aN x.2.2 (aG l x.2.1).aN then[⟨x.1,x.2.1,gw s (aG l x.1).aN x.2.2 (aG l x.2.1).aN⟩]else[]
theorem GP (s:au) (l:List ae):bL s l=(kY l l.length).flatMap (xX s l):=by
 have h1:∀i d,mc s l i d=(AX l i d).flatMap (xX s l):=fun i d=>by
  unfold mc AX
  by_cases h:0<=dZ l (bF (aG l i).aF d)
  ·rw[if_pos h]
   simp only[List.flatMap_cons,List.flatMap_nil,List.append_nil,xX]
   by_cases h2:0<gw s (aG l i).aN d (aG l (dZ l (bF (aG l i).aF d)).toNat).aN
   ·rw[if_pos ⟨h,h2⟩,if_pos h2]
   ·rw[if_neg fun hc=>h2 hc.2,if_neg h2]
  ·rw[if_neg h,if_neg fun hc=>h hc.1];rfl
 unfold bL gn kY
 rw[List.flatMap_assoc]
 congr 1
 funext i
 unfold fM kB
 rw[List.flatMap_assoc]
 congr 1
 funext j
 exact h1 i _
end Go.Proofs.YtgoelphibofcmaaGreat.V

namespace Go.Proofs.YtgoelphibofcmaaGreat.V
open Go.RowKit
attribute [local irreducible] dI wpOps ib Call
attribute [local go_sem] aJ gu eW gR gQ cE upd cw K.av cY AV.cells AV.cell rowOf rowsOf part ld rowAt bB cr dY eG jq bP dq eT gP fx dE eK dn dm eu ew bU bp db bR de dc eI eL eJ da cm dp eH bQ aO di cI jo bE cU bV aY du aV ea AV.undef bG bJ eA eE ei ep cJ eR eV cG eO eM dh dj List.getD_cons_zero List.getD_cons_succ List.getD_nil List.all_cons List.all_nil Bool.and_true Bool.true_and Bool.and_self Bool.not_true Bool.not_false Option.map_some Option.map_none Option.bind_some Option.bind_none List.length_cons List.length_nil List.take_succ_cons List.take_zero List.take_nil List.drop_succ_cons List.drop_zero List.drop_nil List.head?_cons List.map_cons List.map_nil List.getElem?_cons_zero List.getElem?_cons_succ List.cons_append List.nil_append List.append_nil List.length_map List.set_cons_zero List.set_cons_succ Nat.reduceMul eq_self Int.toNat_natCast Int.natCast_nonneg and_self true_and and_true decide_true decide_false Bool.false_eq_true Nat.zero_add Nat.add_zero List.contains_cons List.contains_nil Bool.or_false Bool.false_or beq_self_eq_true Nat.reduceBEq ne_eq not_true_eq_false not_false_eq_true Id.mk.injEq false_and and_false Nat.reduceLT Int.reduceLE Int.reduceLT Int.reduceToNat Int.reduceNeg Int.reduceAdd Nat.le_refl List.length_append beq_true beq_false Bool.not_eq_eq_eq_not or_false false_or eh ao aq aK br bI cC bc bz aQ bt cX cj
def ze (bs:List PB):AV:=if bs=[]then .cu else .sl (bs.map ay)
theorem KB:ze []=.cu:=rfl
theorem zf {bs:List PB} (h:0<bs.length):ze bs=.sl (bs.map ay):=by
 unfold ze
 rw[if_neg (by rintro rfl;simp at h)]
theorem wj (cnt:Nat) (zH:1<=cnt) (hn:cnt<=1048576) (bs:List PB) (hb:∀b∈bs,b.a<cnt/\b.b<cnt) (hp:0<bs.length) (ml:bs.length<=1048576) (t:Int):aj Tryz.prog 221 [.int .i64 cnt,.sl (bs.map ay),.int .i64 t] (.gN [.int .i64 (leads cnt (dQ (aE t bs))).length,ze (cL (dQ (aE t bs)) bs)]):=by
 refine aj.body ej rfl fun hl n0=>?_
 clear hl
 (try((repeat(revert hN;revert N;apply Pn.out));refine wk @Nat.zero_add ?_;(repeat(refine Pn.mk ?_;intro N hN))))
 refine .inr (aU _ _ _ _ _ (fun r σ1 hq=>?_) (GU bs hp ml _))
 obtain⟨o,rfl,ho,JS,JT,O9⟩:=hq
 (try dsimp only at ho JS JT O9)
 refine hN _ _ ?_
 clear hN N
 (try((repeat(revert hN;revert N;apply Pn.out));refine wk @Nat.zero_add ?_;(repeat(refine Pn.mk ?_;intro N hN))))
 refine .inr (aU _ _ _ _ _ (fun r σ2 hq=>?_) (ES bs t ml o ⟨221000000,n0⟩ _ ho (by rw[O9 _ (by(try dsimp only);omega)];simp only[go_sem, ↓reduceIte,Nat.reduceEqDiff,Nat.reduceAdd,Nat.reduceSub,Nat.reduceLeDiff,reduceCtorEq]) (by(try dsimp only);omega) (by(try dsimp only);omega) (by rintro rfl;simp only at JS;omega)))
 obtain⟨rows,rfl,fy,hrt,tx,lx,uw⟩:=hq
 (try dsimp only at lx uw)
 refine hN _ _ ?_
 clear hN N
 have Gh:=uu cnt zH hn (aE t bs) (fun b h=>hb b (vI h)) (by have:=mD t bs;omega)
 have hL:=sH (aE t bs)
 have hz:∀x,cH (eh σ2.get) 6 [.int .i64 x,.own o 0 (aE t bs).length]=some [.int .i64 x,.sl ((aE t bs).map ay)]:=fun x=>by
  have:V.fz (eh σ2.get) 6 (.own o 0 (aE t bs).length)=some (.sl ((aE t bs).map ay)):=by
   rw[il];simp only[eh,fy,Option.map_some,if_true]
   rw[if_pos (by omega),List.drop_zero,hrt,mi fun b=>yf _ 4 b];rfl
  simp only[ao,aq,aK,this,Option.map_some]
 (try((repeat(revert hN;revert N;apply Pn.out));refine wk @Nat.zero_add ?_;(repeat(refine Pn.mk ?_;intro N hN))))
 refine .inl ⟨_,aj.x Gh (hz _),?_⟩
 refine hN _ _ ?_
 clear hN N
 generalize dQ (aE t bs)=L at *
 have rI:((fc cnt L).map zD).length=(leads cnt L).length:=by simp[fc]
 have QL:=jA cnt L
 have ju:(0:Int)<=(cnt:Int):=by omega
 have pc:(cnt:Int)<=((16777216:Nat):Int):=by omega
 have gj:List.replicate cnt [AV.int .i64 0]=dr (ck cnt L 0 0) cnt:=by rw[vM,nS]
 (try((repeat(revert hN;revert N;apply Pn.out));refine wk (tw @ju (tw @pc (tw @Int.le_refl (tw @rI @gj)))) ?_;(repeat(refine Pn.mk ?_;intro N hN))))
 refine aH (fun n env st=>∃i:Nat,n=((leads cnt L).length)-i/\i<=((leads cnt L).length)/\env 27=.int .i64 (i:Int)/\st.get ⟨221002001,σ2.next+1⟩=some ⟨true,1,dr (ck cnt L i 0) cnt⟩/\(σ2.next+1<st.next)) ((leads cnt L).length) ⟨0,by omega,by omega,sl (tw @gj @rI),sl (tw @gj @rI),(by(try dsimp only);omega)⟩ ?_
 rintro n_c env_c st_c ⟨i,rfl,cle,c27,cg0,cI0⟩ cfr
 have c1:=cfr 1 (by kernel_rfl);have c8:=cfr 8 (by kernel_rfl);have c9:=cfr 9 (by kernel_rfl);have we:=cfr 25 (by kernel_rfl);have wg:=cfr 26 (by kernel_rfl)
 simp only[go_sem, ↓reduceIte,Nat.reduceEqDiff,Nat.reduceAdd,Nat.reduceSub,Nat.reduceLeDiff,reduceCtorEq,gj,rI]at c1 c8 c9 we wg
 clear cfr
 by_cases hi:(i:Int)<((leads cnt L).length:Int)
 ·have gM:∀{e:Env} {gg:Rows} {nx:Nat},(e 27=.int .i64 (IntKind.i64.wrap ((i:Int)+1)))->(gg ⟨221002001,σ2.next+1⟩=some ⟨true,1,dr (ck cnt L (i+1) 0) cnt⟩)->(σ2.next+1<nx)->∃m0,m0<((leads cnt L).length)-i/\∃i:Nat,m0=((leads cnt L).length)-i/\i<=((leads cnt L).length)/\e 27=.int .i64 (i:Int)/\gg ⟨221002001,σ2.next+1⟩=some ⟨true,1,dr (ck cnt L i 0) cnt⟩/\(σ2.next+1<nx):=fun x1 x2 x3=>⟨_,by omega,i+1,rfl,by omega,(by rw[x1,ax (by omega)]),x2,x3⟩
  have fA:i<(leads cnt L).length:=by omega
  have jY:((fc cnt L).map zD)[i]? =some (zD (members cnt L (leads cnt L)[i])):=by simp[fc,fA]
  have tu:(leads cnt L).getD i 0=(leads cnt L)[i]:=by simp[List.getD_eq_getElem?_getD,fA]
  have AA:∀m,ck cnt L i m=fun x=>if bf L x<i then bf L x else if x∈(members cnt L (leads cnt L)[i]).take m then i else 0:=fun m=>by unfold ck;rw[tu]
  have qq:=fun x (hx:x<cnt)=>rQ hL (n:=cnt) (k:=x) (i:=i) hx fA
  have oy:(members cnt L (leads cnt L)[i]).Nodup:=List.nodup_range.filter _
  have Jb:∀x∈members cnt L (leads cnt L)[i],x<cnt:=fun x hx=>(ll.1 hx).1
  have hMc:(members cnt L (leads cnt L)[i]).length<=cnt:=by
   have:=List.length_filter_le (fun k=>L k==(leads cnt L)[i]) (List.range cnt)
   simpa[members]using this
  generalize members cnt L (leads cnt L)[i]=M at *
  have Bz:(M.map eN).length=M.length:=by simp
  (try((repeat(revert hN;revert N;apply Pn.out));refine wk (tw @c27 (tw @cg0 (tw @c1 (tw @c8 (tw @c9 (tw @we (tw @wg (tw @hi (tw @rI (tw @jY (tw @zD.eq_1 @Bz))))))))))) ?_;(repeat(refine Pn.mk ?_;intro N hN))))
  refine aH (fun n env st=>∃m:Nat,n=(M.length)-m/\m<=(M.length)/\env 34=.int .i64 (m:Int)/\st.get ⟨221002001,σ2.next+1⟩=some ⟨true,1,dr (ck cnt L i m) cnt⟩/\(σ2.next+1<st.next)) (M.length) ⟨0,by omega,by omega,sl (tw @c27 (tw @cg0 (tw @c1 (tw @c8 (tw @c9 (tw @we (tw @wg @Bz))))))),sl (tw @c27 (tw @cg0 (tw @c1 (tw @c8 (tw @c9 (tw @we (tw @wg @Bz))))))),(by(try dsimp only);omega)⟩ ?_
  rintro n_d env_d st_d ⟨m,rfl,dle,d34,dg0,dI0⟩ dfr
  have d1:=dfr 1 (by kernel_rfl);have d8:=dfr 8 (by kernel_rfl);have d9:=dfr 9 (by kernel_rfl);have d10:=dfr 10 (by kernel_rfl);have d25:=dfr 25 (by kernel_rfl);have d26:=dfr 26 (by kernel_rfl);have d27:=dfr 27 (by kernel_rfl);have d32:=dfr 32 (by kernel_rfl);have d33:=dfr 33 (by kernel_rfl)
  simp only[go_sem, ↓reduceIte,Nat.reduceEqDiff,Nat.reduceAdd,Nat.reduceSub,Nat.reduceLeDiff,reduceCtorEq,c27,cg0,c1,c8,c9,we,wg,Bz]at d1 d8 d9 d10 d25 d26 d27 d32 d33
  clear dfr
  have tl:=fQ (ck cnt L i m) cnt
  by_cases hm:(m:Int)<(M.length:Int)
  ·have sK:∀{e:Env} {gg:Rows} {nx:Nat},(e 34=.int .i64 (IntKind.i64.wrap ((m:Int)+1)))->(gg ⟨221002001,σ2.next+1⟩=some ⟨true,1,dr (ck cnt L i (m+1)) cnt⟩)->(σ2.next+1<nx)->∃m0,m0<(M.length)-m/\∃m:Nat,m0=(M.length)-m/\m<=(M.length)/\e 34=.int .i64 (m:Int)/\gg ⟨221002001,σ2.next+1⟩=some ⟨true,1,dr (ck cnt L i m) cnt⟩/\(σ2.next+1<nx):=fun x1 x2 x3=>⟨_,by omega,m+1,rfl,by omega,(by rw[x1,ax (by omega)]),x2,x3⟩
   have yv:m<M.length:=by omega
   have uy:(M.map eN)[m]? =some (eN M[m]):=by simp[yv]
   have uE:=Jb _ (List.getElem_mem yv)
   have BF:(M[m]:Int)<(cnt:Int):=by omega
   have BE:=e9 (f:=ck cnt L i m) uE
   have ev:(dr (ck cnt L i m) cnt).set M[m] (eN i)=dr (ck cnt L i (m+1)) cnt:=oM uE (by
    have h1:=(qq _ uE).1 (List.getElem_mem yv)
    rw[AA]
    simp only[]
    rw[if_neg (by omega),if_pos (by rw[List.take_succ_eq_append_getElem yv];exact List.mem_append_right _ (List.mem_singleton.2 rfl))]) fun x hx fY=>by
    rw[AA,AA]
    simp only[]
    rw[List.take_succ_eq_append_getElem yv]
    simp only[List.mem_append,List.mem_singleton,fY,or_false]
   rw[eN]at ev BE
   generalize M[m]=xm at *
   (try((repeat(revert hN;revert N;apply Pn.out));refine wk (tw @d34 (tw @dg0 (tw @d1 (tw @d8 (tw @d9 (tw @d10 (tw @d25 (tw @d26 (tw @d27 (tw @d32 (tw @d33 (tw @hm (tw @hi (tw @uy (tw @Bz (tw @BF (tw @BE (tw @tl (tw @ev @eN.eq_1))))))))))))))))))) ?_;(repeat(refine Pn.mk ?_;intro N hN))))
   refine sK ?_ ?_ (by(try dsimp only);omega)
   all_goals simp only[go_sem, ↓reduceIte,Nat.reduceEqDiff,Nat.reduceAdd,Nat.reduceSub,Nat.reduceLeDiff,reduceCtorEq,d34,dg0,d1,d8,d9,d10,d25,d26,d27,d32,d33,ev]
  ·have pI:m=M.length:=by omega
   subst pI
   have iR:dr (ck cnt L i M.length) cnt=dr (ck cnt L (i+1) 0) cnt:=gH fun x hx=>by
    rw[AA,List.take_length]
    simp only[ck,List.take_zero,List.not_mem_nil,if_false]
    have h1:=qq x hx
    by_cases h2:bf L x<i
    ·rw[if_pos h2,if_pos (by omega)]
    ·rw[if_neg h2]
     by_cases h3:x∈M
     ·rw[if_pos h3,if_pos (by have:=h1.1 h3;omega),h1.1 h3]
     ·rw[if_neg h3,if_neg fun h4=>h3 (h1.2 (by omega))]
   (try((repeat(revert hN;revert N;apply Pn.out));refine wk (tw @d34 (tw @dg0 (tw @d1 (tw @d8 (tw @d9 (tw @d10 (tw @d25 (tw @d26 (tw @d27 (tw @d32 (tw @d33 (tw @hm (tw @hi (tw @rI @Bz)))))))))))))) ?_;(repeat(refine Pn.mk ?_;intro N hN))))
   refine gM ?_ ?_ (by(try dsimp only);omega)
   all_goals simp only[go_sem, ↓reduceIte,Nat.reduceEqDiff,Nat.reduceAdd,Nat.reduceSub,Nat.reduceLeDiff,reduceCtorEq,c27,cg0,c1,c8,c9,we,wg,d34,dg0,d1,d8,d9,d10,d25,d26,d27,d32,d33,iR]
 have lv:i=(leads cnt L).length:=by omega
 subst lv
 have zI:dr (ck cnt L (leads cnt L).length 0) cnt=dr (bf L) cnt:=gH fun x hx=>by rw[ck,if_pos (jS hL hx)]
 rw[zI]at cg0
 have tl:=fQ (bf L) cnt
 have Qx:(bs.map ay).length=bs.length:=by simp
 (try((repeat(revert hN;revert N;apply Pn.out));refine wk (tw @c27 (tw @cg0 (tw @c1 (tw @c8 (tw @c9 (tw @we (tw @wg (tw @hi (tw @rI @Qx))))))))) ?_;(repeat(refine Pn.mk ?_;intro N hN))))
 have Mx:σ2.next+1<st_c.next:=cI0
 refine aH (fun n env st=>∃j:Nat,n=(bs.length)-j/\j<=(bs.length)/\env 46=.int .i64 (j:Int)/\st.get ⟨221002001,σ2.next+1⟩=some ⟨true,1,dr (bf L) cnt⟩/\(st_c.next<=st.next/\((cL L (bs.take j)=[]/\env 14=.cu)∨∃p:Id,env 14=.own p 0 (cL L (bs.take j)).length/\st.get p=some ⟨true,3,(cL L (bs.take j)).map ay⟩/\st_c.next<=p.aW/\p.aW<st.next/\0<(cL L (bs.take j)).length))) (bs.length) ⟨0,by omega,by omega,sl (tw @c27 (tw @cg0 (tw @c1 (tw @c8 (tw @c9 (tw @we (tw @wg @Qx))))))),sl (tw @c27 (tw @cg0 (tw @c1 (tw @c8 (tw @c9 (tw @we (tw @wg @Qx))))))),⟨by(try dsimp only);omega,.inl ⟨rfl,by(simp only[go_sem, ↓reduceIte,Nat.reduceEqDiff,Nat.reduceAdd,Nat.reduceSub,Nat.reduceLeDiff,reduceCtorEq])⟩⟩⟩ ?_
 rintro n_f env_f st_f ⟨j,rfl,fle,f46,fg0,fI0⟩ ffr
 have f1:=ffr 1 (by kernel_rfl);have f8:=ffr 8 (by kernel_rfl);have f9:=ffr 9 (by kernel_rfl);have f44:=ffr 44 (by kernel_rfl);have f45:=ffr 45 (by kernel_rfl)
 simp only[go_sem, ↓reduceIte,Nat.reduceEqDiff,Nat.reduceAdd,Nat.reduceSub,Nat.reduceLeDiff,reduceCtorEq,c27,cg0,c1,c8,c9,we,wg,Qx]at f1 f8 f9 f44 f45
 clear ffr
 obtain⟨N4,fO⟩:=fI0
 have HC:=dv (i:=⟨221002001,σ2.next+1⟩) (n:=st_f.next) (by(try dsimp only);omega)
 have Az:=(mC L (bs.take j)).1
 rw[List.length_take]at Az
 by_cases hj:(j:Int)<(bs.length:Int)
 ·have qD:∀{e:Env} {gg:Rows} {nx:Nat},(e 46=.int .i64 (IntKind.i64.wrap ((j:Int)+1)))->(gg ⟨221002001,σ2.next+1⟩=some ⟨true,1,dr (bf L) cnt⟩)->(st_c.next<=nx/\((cL L (bs.take (j+1))=[]/\e 14=.cu)∨∃p:Id,e 14=.own p 0 (cL L (bs.take (j+1))).length/\gg p=some ⟨true,3,(cL L (bs.take (j+1))).map ay⟩/\st_c.next<=p.aW/\p.aW<nx/\0<(cL L (bs.take (j+1))).length))->∃m0,m0<(bs.length)-j/\∃j:Nat,m0=(bs.length)-j/\j<=(bs.length)/\e 46=.int .i64 (j:Int)/\gg ⟨221002001,σ2.next+1⟩=some ⟨true,1,dr (bf L) cnt⟩/\(st_c.next<=nx/\((cL L (bs.take j)=[]/\e 14=.cu)∨∃p:Id,e 14=.own p 0 (cL L (bs.take j)).length/\gg p=some ⟨true,3,(cL L (bs.take j)).map ay⟩/\st_c.next<=p.aW/\p.aW<nx/\0<(cL L (bs.take j)).length)):=fun x1 x2 x3=>⟨_,by omega,j+1,rfl,by omega,(by rw[x1,ax (by omega)]),x2,x3⟩
  have nq:j<bs.length:=by omega
  have DV:(bs.map ay)[j]? =some (ay bs[j]):=by simp[nq]
  have K5:=hb _ (List.getElem_mem nq)
  have hs:=za L (bs.take j) bs[j]
  rw[<-List.take_succ_eq_append_getElem nq]at hs
  generalize bs[j]=b at *
  have hA:=e9 (f:=bf L) K5.1
  have hB:=e9 (f:=bf L) K5.2
  have gi:(b.a:Int)<(cnt:Int):=by omega
  have ft:(b.b:Int)<(cnt:Int):=by omega
  rw[eN]at hA hB
  have e1:(cL L (bs.take j)).length+1<=16777216:=by omega
  have pI:((cL L (bs.take j)).map ay).length=(cL L (bs.take j)).length:=by simp
  by_cases he:bf L b.a=bf L b.b
  ·rw[if_pos he,List.append_nil]at hs
   have tt:decide ((bf L b.a:Int)=(bf L b.b:Int))=true:=decide_eq_true (by rw[he])
   (try((repeat(revert hN;revert N;apply Pn.out));refine wk (tw @f46 (tw @fg0 (tw @f1 (tw @f8 (tw @f9 (tw @f44 (tw @f45 (tw @hj (tw @DV (tw @hA (tw @hB (tw @gi (tw @ft (tw @tl (tw @tt (tw @HC (tw @ay.eq_1 (tw @Bool.not_true @Bool.not_false)))))))))))))))))) ?_;(repeat(refine Pn.mk ?_;intro N hN))))
   refine qD ?_ ?_ (by(try dsimp only);exact⟨by omega,by
    rw[hs]
    rcases fO with⟨h1,h2⟩|⟨p,h1,h2,h3,h4,h5⟩
    ·exact .inl ⟨h1,sd @h2⟩
    ·have q9:=dv h4
     exact .inr ⟨p,sd @h1,sd (tw @h2 @q9),h3,by omega,h5⟩⟩)
   all_goals simp only[go_sem, ↓reduceIte,Nat.reduceEqDiff,Nat.reduceAdd,Nat.reduceSub,Nat.reduceLeDiff,reduceCtorEq,f46,fg0,f1,f8,f9,f44,f45,HC]
  ·rw[if_neg he]at hs
   have tt:decide ((bf L b.a:Int)=(bf L b.b:Int))=false:=decide_eq_false fun h=>he (by omega)
   rcases fO with⟨h1,f14⟩|⟨p,f14,fg,ML,Hq,hp3⟩
   ·rw[h1]at hs
    (try((repeat(revert hN;revert N;apply Pn.out));refine wk (tw @f46 (tw @fg0 (tw @f1 (tw @f8 (tw @f9 (tw @f44 (tw @f45 (tw @f14 (tw @hj (tw @DV (tw @hA (tw @hB (tw @gi (tw @ft (tw @tl (tw @tt (tw @HC (tw @ay.eq_1 (tw @Bool.not_true @Bool.not_false))))))))))))))))))) ?_;(repeat(refine Pn.mk ?_;intro N hN))))
    refine qD ?_ ?_ (by(try dsimp only);exact⟨by omega,.inr ⟨⟨221017015,st_f.next+1+1+1⟩,by rw[hs];simp only[go_sem, ↓reduceIte,Nat.reduceEqDiff,Nat.reduceAdd,Nat.reduceSub,Nat.reduceLeDiff,reduceCtorEq,List.nil_append,List.length_cons,List.length_nil],by rw[hs];simp only[go_sem, ↓reduceIte,Nat.reduceEqDiff,Nat.reduceAdd,Nat.reduceSub,Nat.reduceLeDiff,reduceCtorEq,ay,List.nil_append,List.map_cons,List.map_nil],by(try dsimp only);omega,by(try dsimp only);omega,by rw[hs];simp⟩⟩)
    all_goals simp only[go_sem, ↓reduceIte,Nat.reduceEqDiff,Nat.reduceAdd,Nat.reduceSub,Nat.reduceLeDiff,reduceCtorEq,f46,fg0,f1,f8,f9,f44,f45,HC]
   ·have x1:=cQ (a:=⟨221002001,σ2.next+1⟩) (b:=p) (by(try dsimp only);omega)
    have q9:=dv Hq
    (try((repeat(revert hN;revert N;apply Pn.out));refine wk (tw @f46 (tw @fg0 (tw @f1 (tw @f8 (tw @f9 (tw @f44 (tw @f45 (tw @f14 (tw @fg (tw @hj (tw @DV (tw @hA (tw @hB (tw @gi (tw @ft (tw @tl (tw @tt (tw @x1 (tw @q9 (tw @HC (tw @e1 (tw @pI (tw @ay.eq_1 (tw @Bool.not_true @Bool.not_false)))))))))))))))))))))))) ?_;(repeat(refine Pn.mk ?_;intro N hN))))
    refine qD ?_ ?_ (by(try dsimp only);exact⟨by omega,.inr ⟨⟨221017015,st_f.next+1+1+1⟩,by rw[hs,List.length_append];simp only[go_sem, ↓reduceIte,Nat.reduceEqDiff,Nat.reduceAdd,Nat.reduceSub,Nat.reduceLeDiff,reduceCtorEq,List.length_cons,List.length_nil],by rw[hs,List.map_append,List.map_cons,List.map_nil];simp only[go_sem, ↓reduceIte,Nat.reduceEqDiff,Nat.reduceAdd,Nat.reduceSub,Nat.reduceLeDiff,reduceCtorEq,ay],by(try dsimp only);omega,by(try dsimp only);omega,by rw[hs];simp⟩⟩)
    all_goals simp only[go_sem, ↓reduceIte,Nat.reduceEqDiff,Nat.reduceAdd,Nat.reduceSub,Nat.reduceLeDiff,reduceCtorEq,f46,fg0,f1,f8,f9,f44,f45,x1,HC]
 ·have gm:j=bs.length:=by omega
  subst gm
  rw[List.take_length]at fO
  rcases fO with⟨h1,f14⟩|⟨p,f14,fg,ML,Hq,hp3⟩
  ·(try((repeat(revert hN;revert N;apply Pn.out));refine wk (tw @f46 (tw @fg0 (tw @f1 (tw @f8 (tw @f9 (tw @f44 (tw @f45 (tw @f14 (tw @hj @rI))))))))) ?_;(repeat(refine Pn.mk ?_;intro N hN))))
   refine gz (.inl rfl) (r1:=.int .i64 ((leads cnt L).length:Int)) (sd @Nat.zero_add) (by simp only[go_sem, ↓reduceIte,Nat.reduceEqDiff,Nat.reduceAdd,Nat.reduceSub,Nat.reduceLeDiff,reduceCtorEq];rfl) ?_
   simp only[dU,aP,bx,dL,lN,h1,KB,Option.map_some]
  ·(try((repeat(revert hN;revert N;apply Pn.out));refine wk (tw @f46 (tw @fg0 (tw @f1 (tw @f8 (tw @f9 (tw @f44 (tw @f45 (tw @f14 (tw @hj @rI))))))))) ?_;(repeat(refine Pn.mk ?_;intro N hN))))
   refine gz (.inl rfl) (r1:=.int .i64 ((leads cnt L).length:Int)) (sd @Nat.zero_add) (by simp only[go_sem, ↓reduceIte,Nat.reduceEqDiff,Nat.reduceAdd,Nat.reduceSub,Nat.reduceLeDiff,reduceCtorEq];rfl) ?_
   have h1:fX st_f.get 5 (.own p 0 (cL L bs).length)=some (.sl ((cL L bs).map ay)):=gZ (sz:=3) fg rfl fun b=>tk _ 3 b
   simp only[dU,aP,bx,dL,h1,zf hp3,Option.map_some]
theorem wi (cnt:Nat) (zH:1<=cnt) (hn:cnt<=1048576) (t:Int):aj Tryz.prog 221 [.int .i64 cnt,.cu,.int .i64 t] (.gN [.int .i64 cnt,.cu]):=by
 refine aj.body ej rfl fun hl n0=>?_
 clear hl
 have h1:aj Tryz.prog 242 [.cu] .cu:=by
  refine aj.body ej rfl fun hl n0=>?_
  clear hl
  (try((repeat(revert hN;revert N;apply Pn.out));refine wk @Nat.zero_add ?_;(repeat(refine Pn.mk ?_;intro N hN))))
  exact vu (.inl rfl) (r0:=.cu) (sd @Nat.zero_add) (lN _ _)
 have h2:aj Tryz.prog 241 [.cu,.fn 243 [.bK [.int .i64 t]]] .cu:=by
  have zF:=(xp [] t (by simp)).cut mixed (.cu (.same _ .nil))
  refine aj.body ej rfl fun hl n0=>?_
  clear hl
  (try((repeat(revert hN;revert N;apply Pn.out));refine wk @Nat.zero_add ?_;(repeat(refine Pn.mk ?_;intro N hN))))
  refine .inl ⟨_,aj.x zF (by simp only[ao,aq,bc,cX,aQ,List.all_cons,List.all_nil,AV.cell,Bool.and_true,if_true,Option.map_some]),?_⟩
  refine hN _ _ ?_
  clear hN N
  have hd:decide (ik (fun b:PB=>decide (b.s<t)) []= -1)=true:=rfl
  (try((repeat(revert hN;revert N;apply Pn.out));refine wk @hd ?_;(repeat(refine Pn.mk ?_;intro N hN))))
  exact vu (.inl rfl) (r0:=.cu) (sd @Nat.zero_add) (lN _ _)
 have Gh:=(uu cnt zH hn [] (fun b h=>by cases h) (by simp)).cut mixed (.same _ (.cu .nil))
 (repeat(first|((repeat(revert hN;revert N;apply Pn.out));refine wk @Nat.zero_add ?_;(repeat(refine Pn.mk ?_;intro N hN)))|((try apply Or.inl);refine⟨_,aj.x (h1) (sd @Nat.zero_add),?_⟩;refine hN _ _ ?_;clear hN N)))
 refine .inl ⟨_,aj.x h2 ?_,?_⟩
 ·have:V.fz (eh (bB (fun _=>none) ⟨221000000,n0⟩ ⟨true,1,[[.int .i64 t]]⟩)) 5 (.ptr ⟨221000000,n0⟩ 0 0)=some (.bK [.int .i64 t]):=rC (sz:=1) (rows:=[[.int .i64 t]]) (by simp[eh,bB]) rfl (by simp only[List.drop_zero,ao,aq,aK,Option.map_some])
  simp only[ao,aq,bc,cX,this,List.all_cons,List.all_nil,AV.cell,Bool.and_true,if_true,Option.map_some]
 refine hN _ _ ?_
 clear hN N
 have ft:dQ ([]:List PB)=id:=rfl
 rw[ft]at Gh
 have hL:js id:=ft▸sH ([]:List PB)
 have N6:(leads cnt id).length=cnt:=by rw[leads,List.filter_eq_self.2 (fun a _=>by simp)];simp
 generalize (id:Nat->Nat)=L at *
 have rI:((fc cnt L).map zD).length=(leads cnt L).length:=by simp[fc]
 have QL:=jA cnt L
 have ju:(0:Int)<=(cnt:Int):=by omega
 have pc:(cnt:Int)<=((16777216:Nat):Int):=by omega
 have gj:List.replicate cnt [AV.int .i64 0]=dr (ck cnt L 0 0) cnt:=by rw[vM,nS]
 (repeat(first|((repeat(revert hN;revert N;apply Pn.out));refine wk (tw @ju (tw @pc (tw @Int.le_refl (tw @rI @gj)))) ?_;(repeat(refine Pn.mk ?_;intro N hN)))|((try apply Or.inl);refine⟨_,aj.x (Gh) (sd (tw @ju (tw @pc (tw @Int.le_refl (tw @rI @gj))))),?_⟩;refine hN _ _ ?_;clear hN N)))
 refine aH (fun n env st=>∃i:Nat,n=((leads cnt L).length)-i/\i<=((leads cnt L).length)/\env 27=.int .i64 (i:Int)/\st.get ⟨221002001,n0+1+1⟩=some ⟨true,1,dr (ck cnt L i 0) cnt⟩/\(n0+1+1<st.next)) ((leads cnt L).length) ⟨0,by omega,by omega,sl (tw @gj @rI),sl (tw @gj @rI),(by(try dsimp only);omega)⟩ ?_
 rintro n_c env_c st_c ⟨i,rfl,cle,c27,cg0,cI0⟩ cfr
 have c1:=cfr 1 (by kernel_rfl);have c8:=cfr 8 (by kernel_rfl);have c9:=cfr 9 (by kernel_rfl);have we:=cfr 25 (by kernel_rfl);have wg:=cfr 26 (by kernel_rfl)
 simp only[go_sem, ↓reduceIte,Nat.reduceEqDiff,Nat.reduceAdd,Nat.reduceSub,Nat.reduceLeDiff,reduceCtorEq,gj,rI]at c1 c8 c9 we wg
 clear cfr
 by_cases hi:(i:Int)<((leads cnt L).length:Int)
 ·have gM:∀{e:Env} {gg:Rows} {nx:Nat},(e 27=.int .i64 (IntKind.i64.wrap ((i:Int)+1)))->(gg ⟨221002001,n0+1+1⟩=some ⟨true,1,dr (ck cnt L (i+1) 0) cnt⟩)->(n0+1+1<nx)->∃m0,m0<((leads cnt L).length)-i/\∃i:Nat,m0=((leads cnt L).length)-i/\i<=((leads cnt L).length)/\e 27=.int .i64 (i:Int)/\gg ⟨221002001,n0+1+1⟩=some ⟨true,1,dr (ck cnt L i 0) cnt⟩/\(n0+1+1<nx):=fun x1 x2 x3=>⟨_,by omega,i+1,rfl,by omega,(by rw[x1,ax (by omega)]),x2,x3⟩
  have fA:i<(leads cnt L).length:=by omega
  have jY:((fc cnt L).map zD)[i]? =some (zD (members cnt L (leads cnt L)[i])):=by simp[fc,fA]
  have tu:(leads cnt L).getD i 0=(leads cnt L)[i]:=by simp[List.getD_eq_getElem?_getD,fA]
  have AA:∀m,ck cnt L i m=fun x=>if bf L x<i then bf L x else if x∈(members cnt L (leads cnt L)[i]).take m then i else 0:=fun m=>by unfold ck;rw[tu]
  have qq:=fun x (hx:x<cnt)=>rQ hL (n:=cnt) (k:=x) (i:=i) hx fA
  have oy:(members cnt L (leads cnt L)[i]).Nodup:=List.nodup_range.filter _
  have Jb:∀x∈members cnt L (leads cnt L)[i],x<cnt:=fun x hx=>(ll.1 hx).1
  have hMc:(members cnt L (leads cnt L)[i]).length<=cnt:=by
   have:=List.length_filter_le (fun k=>L k==(leads cnt L)[i]) (List.range cnt)
   simpa[members]using this
  generalize members cnt L (leads cnt L)[i]=M at *
  have Bz:(M.map eN).length=M.length:=by simp
  (try((repeat(revert hN;revert N;apply Pn.out));refine wk (tw @c27 (tw @cg0 (tw @c1 (tw @c8 (tw @c9 (tw @we (tw @wg (tw @hi (tw @rI (tw @jY (tw @zD.eq_1 @Bz))))))))))) ?_;(repeat(refine Pn.mk ?_;intro N hN))))
  refine aH (fun n env st=>∃m:Nat,n=(M.length)-m/\m<=(M.length)/\env 34=.int .i64 (m:Int)/\st.get ⟨221002001,n0+1+1⟩=some ⟨true,1,dr (ck cnt L i m) cnt⟩/\(n0+1+1<st.next)) (M.length) ⟨0,by omega,by omega,sl (tw @c27 (tw @cg0 (tw @c1 (tw @c8 (tw @c9 (tw @we (tw @wg @Bz))))))),sl (tw @c27 (tw @cg0 (tw @c1 (tw @c8 (tw @c9 (tw @we (tw @wg @Bz))))))),(by(try dsimp only);omega)⟩ ?_
  rintro n_d env_d st_d ⟨m,rfl,dle,d34,dg0,dI0⟩ dfr
  have d1:=dfr 1 (by kernel_rfl);have d8:=dfr 8 (by kernel_rfl);have d9:=dfr 9 (by kernel_rfl);have d10:=dfr 10 (by kernel_rfl);have d25:=dfr 25 (by kernel_rfl);have d26:=dfr 26 (by kernel_rfl);have d27:=dfr 27 (by kernel_rfl);have d32:=dfr 32 (by kernel_rfl);have d33:=dfr 33 (by kernel_rfl)
  simp only[go_sem, ↓reduceIte,Nat.reduceEqDiff,Nat.reduceAdd,Nat.reduceSub,Nat.reduceLeDiff,reduceCtorEq,c27,cg0,c1,c8,c9,we,wg,Bz]at d1 d8 d9 d10 d25 d26 d27 d32 d33
  clear dfr
  have tl:=fQ (ck cnt L i m) cnt
  by_cases hm:(m:Int)<(M.length:Int)
  ·have sK:∀{e:Env} {gg:Rows} {nx:Nat},(e 34=.int .i64 (IntKind.i64.wrap ((m:Int)+1)))->(gg ⟨221002001,n0+1+1⟩=some ⟨true,1,dr (ck cnt L i (m+1)) cnt⟩)->(n0+1+1<nx)->∃m0,m0<(M.length)-m/\∃m:Nat,m0=(M.length)-m/\m<=(M.length)/\e 34=.int .i64 (m:Int)/\gg ⟨221002001,n0+1+1⟩=some ⟨true,1,dr (ck cnt L i m) cnt⟩/\(n0+1+1<nx):=fun x1 x2 x3=>⟨_,by omega,m+1,rfl,by omega,(by rw[x1,ax (by omega)]),x2,x3⟩
   have yv:m<M.length:=by omega
   have uy:(M.map eN)[m]? =some (eN M[m]):=by simp[yv]
   have uE:=Jb _ (List.getElem_mem yv)
   have BF:(M[m]:Int)<(cnt:Int):=by omega
   have BE:=e9 (f:=ck cnt L i m) uE
   have ev:(dr (ck cnt L i m) cnt).set M[m] (eN i)=dr (ck cnt L i (m+1)) cnt:=oM uE (by
    have h1:=(qq _ uE).1 (List.getElem_mem yv)
    rw[AA]
    simp only[]
    rw[if_neg (by omega),if_pos (by rw[List.take_succ_eq_append_getElem yv];exact List.mem_append_right _ (List.mem_singleton.2 rfl))]) fun x hx fY=>by
    rw[AA,AA]
    simp only[]
    rw[List.take_succ_eq_append_getElem yv]
    simp only[List.mem_append,List.mem_singleton,fY,or_false]
   rw[eN]at ev BE
   generalize M[m]=xm at *
   (try((repeat(revert hN;revert N;apply Pn.out));refine wk (tw @d34 (tw @dg0 (tw @d1 (tw @d8 (tw @d9 (tw @d10 (tw @d25 (tw @d26 (tw @d27 (tw @d32 (tw @d33 (tw @hm (tw @hi (tw @uy (tw @Bz (tw @BF (tw @BE (tw @tl (tw @ev @eN.eq_1))))))))))))))))))) ?_;(repeat(refine Pn.mk ?_;intro N hN))))
   refine sK ?_ ?_ (by(try dsimp only);omega)
   all_goals simp only[go_sem, ↓reduceIte,Nat.reduceEqDiff,Nat.reduceAdd,Nat.reduceSub,Nat.reduceLeDiff,reduceCtorEq,d34,dg0,d1,d8,d9,d10,d25,d26,d27,d32,d33,ev]
  ·have pI:m=M.length:=by omega
   subst pI
   have iR:dr (ck cnt L i M.length) cnt=dr (ck cnt L (i+1) 0) cnt:=gH fun x hx=>by
    rw[AA,List.take_length]
    simp only[ck,List.take_zero,List.not_mem_nil,if_false]
    have h1:=qq x hx
    by_cases h2:bf L x<i
    ·rw[if_pos h2,if_pos (by omega)]
    ·rw[if_neg h2]
     by_cases h3:x∈M
     ·rw[if_pos h3,if_pos (by have:=h1.1 h3;omega),h1.1 h3]
     ·rw[if_neg h3,if_neg fun h4=>h3 (h1.2 (by omega))]
   (try((repeat(revert hN;revert N;apply Pn.out));refine wk (tw @d34 (tw @dg0 (tw @d1 (tw @d8 (tw @d9 (tw @d10 (tw @d25 (tw @d26 (tw @d27 (tw @d32 (tw @d33 (tw @hm (tw @hi (tw @rI @Bz)))))))))))))) ?_;(repeat(refine Pn.mk ?_;intro N hN))))
   refine gM ?_ ?_ (by(try dsimp only);omega)
   all_goals simp only[go_sem, ↓reduceIte,Nat.reduceEqDiff,Nat.reduceAdd,Nat.reduceSub,Nat.reduceLeDiff,reduceCtorEq,c27,cg0,c1,c8,c9,we,wg,d34,dg0,d1,d8,d9,d10,d25,d26,d27,d32,d33,iR]
 have lv:i=(leads cnt L).length:=by omega
 subst lv
 have zI:dr (ck cnt L (leads cnt L).length 0) cnt=dr (bf L) cnt:=gH fun x hx=>by rw[ck,if_pos (jS hL hx)]
 rw[zI]at cg0
 have tl:=fQ (bf L) cnt
 (try((repeat(revert hN;revert N;apply Pn.out));refine wk (tw @c27 (tw @cg0 (tw @c1 (tw @c8 (tw @c9 (tw @we (tw @wg (tw @hi @rI)))))))) ?_;(repeat(refine Pn.mk ?_;intro N hN))))
 refine aH (fun n env st=>∃j:Nat,n=(0)-j/\j<=(0)/\env 46=.int .i64 (j:Int)/\env 14=.cu) (0) ⟨0,by omega,by omega,sl (tw @c27 (tw @cg0 (tw @c1 (tw @c8 (tw @c9 (tw @we @wg)))))),sl (tw @c27 (tw @cg0 (tw @c1 (tw @c8 (tw @c9 (tw @we @wg))))))⟩ ?_
 rintro n_f env_f st_f ⟨j,rfl,fle,f46,f14⟩ ffr
 have f8:=ffr 8 (by kernel_rfl);have f44:=ffr 44 (by kernel_rfl);have f45:=ffr 45 (by kernel_rfl)
 simp only[go_sem, ↓reduceIte,Nat.reduceEqDiff,Nat.reduceAdd,Nat.reduceSub,Nat.reduceLeDiff,reduceCtorEq,c27,cg0,c1,c8,c9,we,wg]at f8 f44 f45
 clear ffr
 have hj:¬(j:Int)<((0:Nat):Int):=by omega
 (try((repeat(revert hN;revert N;apply Pn.out));refine wk (tw @f46 (tw @f14 (tw @f8 (tw @f44 (tw @f45 (tw @hj @rI)))))) ?_;(repeat(refine Pn.mk ?_;intro N hN))))
 refine gz (.inl rfl) (r1:=.int .i64 ((leads cnt L).length:Int)) (r2:=.cu) (sd @Nat.zero_add) (sd @Nat.zero_add) ?_
 simp only[dU,aP,bx,dL,lN,N6,Option.map_some]
theorem x9 (cnt:Nat) (zH:1<=cnt) (hn:cnt<=1048576) (bs:List PB) (hb:∀b∈bs,b.a<cnt/\b.b<cnt) (ml:bs.length<=1048576) (t:Int):aj Tryz.prog 221 [.int .i64 cnt,ze bs,.int .i64 t] (.gN [.int .i64 (leads cnt (dQ (aE t bs))).length,ze (cL (dQ (aE t bs)) bs)]):=by
 cases bs with
 |nil=>
  have h:=wi cnt zH hn t
  have N6:(leads cnt (dQ (aE t []))).length=cnt:=by
   show(leads cnt id).length=cnt
   rw[leads,List.filter_eq_self.2 (fun a _=>by simp)];simp
  rw[N6]
  exact h
 |cons b r=>
  rw[zf (by simp)]
  exact wj cnt zH hn (b::r) hb (by simp) ml t
end Go.Proofs.YtgoelphibofcmaaGreat.V

namespace Go.Proofs.YtgoelphibofcmaaGreat.V
open Go.RowKit
attribute [local irreducible] dI wpOps ib Call
attribute [local go_sem] aJ gu eW gR gQ cE upd cw K.av cY AV.cells AV.cell rowOf rowsOf part ld rowAt bB cr dY eG jq bP dq eT gP fx dE eK dn dm eu ew bU bp db bR de dc eI eL eJ da cm dp eH bQ aO di cI jo bE cU bV aY du aV ea AV.undef bG bJ eA eE ei ep cJ eR eV cG eO eM dh dj List.getD_cons_zero List.getD_cons_succ List.getD_nil List.all_cons List.all_nil Bool.and_true Bool.true_and Bool.and_self Bool.not_true Bool.not_false Option.map_some Option.map_none Option.bind_some Option.bind_none List.length_cons List.length_nil List.take_succ_cons List.take_zero List.take_nil List.drop_succ_cons List.drop_zero List.drop_nil List.head?_cons List.map_cons List.map_nil List.getElem?_cons_zero List.getElem?_cons_succ List.cons_append List.nil_append List.append_nil List.length_map List.set_cons_zero List.set_cons_succ Nat.reduceMul eq_self Int.toNat_natCast Int.natCast_nonneg and_self true_and and_true decide_true decide_false Bool.false_eq_true Nat.zero_add Nat.add_zero List.contains_cons List.contains_nil Bool.or_false Bool.false_or beq_self_eq_true Nat.reduceBEq ne_eq not_true_eq_false not_false_eq_true Id.mk.injEq false_and and_false Nat.reduceLT Int.reduceLE Int.reduceLT Int.reduceToNat Int.reduceNeg Int.reduceAdd Nat.le_refl List.length_append beq_true beq_false Bool.not_eq_eq_eq_not or_false false_or eh ao aq aK br bI cC bc bz aQ bt cX cj
attribute [local go_sem] Es
section
attribute [-go_sem] dY
theorem Kj (n:Nat) (hn:n<=1048576):aj Tryz.prog 277 [.int .u64 1,.int .u64 n] (.gN [.int .u64 0,.int .u64 n]):=by
 refine aj.body ej rfl fun hl n0=>?_
 clear hl
 have b1:(BitVec.ofInt 64 (n:Int)&&& BitVec.ofInt 64 4294967295).toNat=n:=by
  rw[BitVec.toNat_and]
  have e1:(BitVec.ofInt 64 (n:Int)).toNat=n:=by rw[BitVec.toNat_ofInt];omega
  have e2:(BitVec.ofInt 64 4294967295).toNat=2 ^ 32-1:=by decide
  rw[e1,e2]
  exact Nat.and_two_pow_sub_one_of_lt_two_pow (by omega)
 have zn:IntKind.u64.wrap (n:Int)=n:=by rw[IntKind.wrap_u64];omega
 have i1:dY .and .u64 (n:Int) 4294967295=some (.int .u64 n):=by
  show some (AV.int .u64 (IntKind.u64.wrap (((BitVec.ofInt 64 (n:Int)&&& BitVec.ofInt 64 4294967295).toNat:Nat):Int)))= _
  rw[b1,zn]
 have i2:dY .and .u64 1 4294967295=some (.int .u64 1):=rfl
 have i3:dY .and .u64 0 4294967295=some (.int .u64 0):=rfl
 have i4:dY .mul .u64 1 (n:Int)=some (.int .u64 n):=by simp only[dY,Int.one_mul,zn]
 have i5:dY .mul .u64 0 (n:Int)=some (.int .u64 0):=by simp only[dY,Int.zero_mul];rfl
 have i6:dY .mul .u64 1 0=some (.int .u64 0):=rfl
 have i7:dY .mul .u64 0 0=some (.int .u64 0):=rfl
 have i8:dY .add .u64 0 0=some (.int .u64 0):=rfl
 have a3:Int.fdiv 1 (2 ^ min 32 64)=0:=by decide
 have a4:Int.fdiv (n:Int) (2 ^ min 32 64)=0:=by
  rw[Int.fdiv_eq_ediv_of_nonneg _ (by decide)]
  have h32:(2:Int) ^ min 32 64=4294967296:=by decide
  exact Int.ediv_eq_zero_of_lt (by omega) (by omega)
 have z1:Int.fdiv 0 (2 ^ min 32 64)=0:=by decide
 (try((repeat(revert hN;revert N;apply Pn.out));refine wk (tw @i1 (tw @i2 (tw @i3 (tw @i4 (tw @i5 (tw @i6 (tw @i7 (tw @i8 (tw @a3 (tw @a4 @z1)))))))))) ?_;(repeat(refine Pn.mk ?_;intro N hN))))
 refine gz (.inl rfl) (r1:=.int .u64 0) (r2:=.int .u64 n) (sd @Nat.zero_add) (sd @Nat.zero_add) ?_
 simp only[dU,aP,bx,dL,Option.map_some]
end
theorem PL (n:Nat) (hn:n<=1048576):aj Tryz.prog 275 [.int .u64 1,.int .u64 n] (.gN [.int .u64 0,.int .u64 n]):=by
 refine aj.body ej rfl fun hl n0=>?_
 clear hl
 have h:=Kj n hn
 (repeat(first|((repeat(revert hN;revert N;apply Pn.out));refine wk @Nat.zero_add ?_;(repeat(refine Pn.mk ?_;intro N hN)))|((try apply Or.inl);refine⟨_,aj.x (h) (sd @Nat.zero_add),?_⟩;refine hN _ _ ?_;clear hN N)))
 refine gz (.inl rfl) (r1:=.int .u64 0) (r2:=.int .u64 n) (sd @Nat.zero_add) (sd @Nat.zero_add) ?_
 simp only[dU,aP,bx,dL,Option.map_some]
theorem Ic (cnt:Nat) (zH:1<=cnt) (hn:cnt<=1048576) (v:Int) (x:Id) (σ:ar) (hx:σ.get x=some ⟨true,1,[[.int .i64 v]]⟩) (SI:x.aW<σ.next):
  Call Tryz.prog 271 [.own x 0 1,.int .i64 cnt] σ fun r σ'=>∃o:Id,r=.own o 0 cnt/\σ'.get o=some ⟨true,1,List.replicate cnt [.int .i64 v]⟩/\σ.next<=o.aW/\o.aW<σ'.next/\∀i:Id,i.aW<σ.next->σ'.get i=σ.get i:=by
 refine gT ej rfl fun hl=>?_
 clear hl
 have h:=PL cnt hn
 have w1:IntKind.u64.wrap (cnt:Int)=cnt:=by rw[IntKind.wrap_u64];omega
 have w2:IntKind.i64.wrap (cnt:Int)=cnt:=IQ (by omega)
 have w0:IntKind.u64.wrap ((1:Nat):Int)=1:=by decide
 have g1:¬(cnt:Int)<0:=by omega
 have g2:¬(9223372036854775807:Int)<cnt:=by omega
 have ju:(0:Int)<=(cnt:Int):=by omega
 have pc:(cnt:Int)<=((16777216:Nat):Int):=by omega
 have Jh:=dv SI
 have tx:(List.replicate cnt [AV.int .i64 0]).length=cnt:=List.length_replicate
 have m1:min 1 cnt=1:=by omega
 (repeat(first|((repeat(revert hN;revert N;apply Pn.out));refine wk (tw @w0 (tw @w1 (tw @w2 (tw @g1 (tw @g2 (tw @ju (tw @pc (tw @Int.le_refl (tw @Nat.le_refl (tw @hx (tw @Jh (tw @tx @m1)))))))))))) ?_;(repeat(refine Pn.mk ?_;intro N hN)))|((try apply Or.inl);refine⟨_,aj.x (h) (sd (tw @w0 (tw @w1 (tw @w2 (tw @g1 (tw @g2 (tw @ju (tw @pc (tw @Int.le_refl (tw @Nat.le_refl (tw @hx (tw @Jh (tw @tx @m1))))))))))))),?_⟩;refine hN _ _ ?_;clear hN N)))
 refine aH (fun m env st=>∃k:Nat,m=cnt-k/\1<=k/\k<=cnt/\env 8=.int .i64 (k:Int)/\st.get ⟨271006002,σ.next+1+1+1+1⟩=some ⟨true,1,List.replicate k [.int .i64 v]++List.replicate (cnt-k) [.int .i64 0]⟩/\σ.next+4<st.next/\∀i:Id,i.aW<σ.next->st.get i=σ.get i) (cnt-1) ⟨1,rfl,Nat.le_refl _,zH,by(simp only[go_sem, ↓reduceIte,Nat.reduceEqDiff,Nat.reduceAdd,Nat.reduceSub,Nat.reduceLeDiff,reduceCtorEq,m1])<;>rfl,?_,by(try dsimp only);omega,fun i hi=>?_⟩ ?_
 ·simp only[go_sem, ↓reduceIte,Nat.reduceEqDiff,Nat.reduceAdd,Nat.reduceSub,Nat.reduceLeDiff,reduceCtorEq]
  rw[List.drop_replicate];rfl
 ·have CA:=dv hi
  simp only[go_sem, ↓reduceIte,Nat.reduceEqDiff,Nat.reduceAdd,Nat.reduceSub,Nat.reduceLeDiff,reduceCtorEq,CA]
 rintro m env_b st_b ⟨k,rfl,vZ,uA,b8,bg,bn,ec⟩ bkp
 have b7:=bkp 7 (by kernel_rfl)
 simp only[go_sem, ↓reduceIte,Nat.reduceEqDiff,Nat.reduceAdd,Nat.reduceSub,Nat.reduceLeDiff,reduceCtorEq]at b7
 clear bkp
 have Pr:(List.replicate k [AV.int .i64 v]++List.replicate (cnt-k) [AV.int .i64 0]).length=cnt:=by simp;omega
 by_cases hk:(k:Int)<(cnt:Int)
 ·have eZ:k<cnt:=by omega
  have vY:(k:Int)<=(cnt:Int):=by omega
  have hw:IntKind.i64.wrap ((k:Int)+((min k (cnt-k):Nat):Int))=((k+min k (cnt-k):Nat):Int):=by rw[aZ (by omega)];omega
  have mV:List.take k (List.replicate k [AV.int .i64 v]++List.replicate (cnt-k) [AV.int .i64 0])=List.replicate k [AV.int .i64 v]:=List.take_left' (by simp)
  have dC:(List.replicate k [AV.int .i64 v]).all (fun c=>c.length==1&&c.all AV.cell)=true:=List.all_eq_true.2 fun c hc=>by rw[List.eq_of_mem_replicate hc];rfl
  have hlr:(List.replicate k [AV.int .i64 v]).length=k:=List.length_replicate
  have SA:k+(cnt-k)=cnt:=by omega
  have uD:List.replicate k [AV.int .i64 v]++List.take (min k (cnt-k)) (List.replicate k [AV.int .i64 v])++List.drop (k+min k (cnt-k)) (List.replicate k [AV.int .i64 v]++List.replicate (cnt-k) [AV.int .i64 0])=List.replicate (k+min k (cnt-k)) [AV.int .i64 v]++List.replicate (cnt-(k+min k (cnt-k))) [AV.int .i64 0]:=by
   rw[List.take_replicate,List.drop_append,List.drop_of_length_le (by simp),List.nil_append,hlr,List.drop_replicate,List.replicate_append_replicate]
   congr 2
   ·omega
   ·omega
  (try((repeat(revert hN;revert N;apply Pn.out));refine wk (tw @b7 (tw @b8 (tw @bg (tw @Pr (tw @hk (tw @vY (tw @uA (tw @hw (tw @eZ (tw @Nat.sub_zero (tw @mV (tw @dC (tw @hlr (tw @SA (tw @Nat.le_refl @uD))))))))))))))) ?_;(repeat(refine Pn.mk ?_;intro N hN))))
  refine⟨_,?_,k+min k (cnt-k),rfl,by omega,by omega,sd @hw,sd @uD,by(try dsimp only);omega,fun i hi=>?_⟩
  ·omega
  ·have CA:=dv hi
   have:=ec i hi
   simp only[go_sem, ↓reduceIte,Nat.reduceEqDiff,Nat.reduceAdd,Nat.reduceSub,Nat.reduceLeDiff,reduceCtorEq,CA,this]
 ·have kQ:k=cnt:=by omega
  subst kQ
  (try((repeat(revert hN;revert N;apply Pn.out));refine wk (tw @b7 (tw @b8 (tw @bg (tw @Pr @hk)))) ?_;(repeat(refine Pn.mk ?_;intro N hN))))
  refine gD (.inl rfl) (vs:=[.own ⟨271006002,σ.next+1+1+1+1⟩ 0 k]) (sd @Nat.zero_add) ⟨⟨271006002,σ.next+1+1+1+1⟩,rfl,by simp only[go_sem, ↓reduceIte,Nat.reduceEqDiff,Nat.reduceAdd,Nat.reduceSub,Nat.reduceLeDiff,reduceCtorEq,bg];simp,by(try dsimp only);omega,by(try dsimp only);omega,fun i hi=>ec i hi⟩
end Go.Proofs.YtgoelphibofcmaaGreat.V

namespace Go.Proofs.YtgoelphibofcmaaGreat.V
open Go.RowKit
attribute [local irreducible] dI wpOps ib Call
attribute [local go_sem] aJ gu eW gR gQ cE upd cw K.av cY AV.cells AV.cell rowOf rowsOf part ld rowAt bB cr dY eG jq bP dq eT gP fx dE eK dn dm eu ew bU bp db bR de dc eI eL eJ da cm dp eH bQ aO di cI jo bE cU bV aY du aV ea AV.undef bG bJ eA eE ei ep cJ eR eV cG eO eM dh dj List.getD_cons_zero List.getD_cons_succ List.getD_nil List.all_cons List.all_nil Bool.and_true Bool.true_and Bool.and_self Bool.not_true Bool.not_false Option.map_some Option.map_none Option.bind_some Option.bind_none List.length_cons List.length_nil List.take_succ_cons List.take_zero List.take_nil List.drop_succ_cons List.drop_zero List.drop_nil List.head?_cons List.map_cons List.map_nil List.getElem?_cons_zero List.getElem?_cons_succ List.cons_append List.nil_append List.append_nil List.length_map List.set_cons_zero List.set_cons_succ Nat.reduceMul eq_self Int.toNat_natCast Int.natCast_nonneg and_self true_and and_true decide_true decide_false Bool.false_eq_true Nat.zero_add Nat.add_zero List.contains_cons List.contains_nil Bool.or_false Bool.false_or beq_self_eq_true Nat.reduceBEq ne_eq not_true_eq_false not_false_eq_true Id.mk.injEq false_and and_false Nat.reduceLT Int.reduceLE Int.reduceLT Int.reduceToNat Int.reduceNeg Int.reduceAdd Nat.le_refl List.length_append beq_true beq_false Bool.not_eq_eq_eq_not or_false false_or eh ao aq aK br bI cC bc bz aQ bt cX cj
def kJ (R:Nat->Id) (n k:Nat):List (List AV):=(List.range k).map fun i=>[.own (R i) 0 n]
theorem jU (R:Nat->Id) (n k:Nat):(kJ R n k).length=k:=by simp[kJ]
theorem qP {R:Nat->Id} {n k i:Nat} (h:i<k):(kJ R n k)[i]? =some [.own (R i) 0 n]:=by simp[kJ,h]
theorem r4 (R:Nat->Id) (n k:Nat):kJ R n (k+1)=kJ R n k++[[.own (R k) 0 n]]:=by simp[kJ,List.range_succ]
def wN (c:Nat->Nat->Int) (n:Nat):List (List AV):=(List.range n).map fun i=>[.sl (dD (c i) n)]
theorem Bi {c:Nat->Nat->Int} {n i:Nat} (h:i<n):(wN c n)[i]? =some [.sl (dD (c i) n)]:=by simp[wN,h]
theorem vL (c:Nat->Nat->Int) (n:Nat):(wN c n).length=n:=by simp[wN]
structure EC (X o1 o2:Id) (R1 R2:Nat->Id) (n nb:Nat):Prop where
 sx:X.site=245001001
 s1:o1.site=245004008
 s2:o2.site=245005008
 Q4:∀i,i<n->(R1 i).site=245004006
 Lt:∀i,i<n->(R2 i).site=245005006
 i1:∀i j,i<n->j<n->R1 i=R1 j->i=j
 i2:∀i j,i<n->j<n->R2 i=R2 j->i=j
 vx:X.aW<nb
 v1:o1.aW<nb
 v2:o2.aW<nb
 Q6:∀i,i<n->(R1 i).aW<nb
 Ov:∀i,i<n->(R2 i).aW<nb
structure mY (g:Rows) (X o1 o2:Id) (R1 R2:Nat->Id) (n:Nat) (c f:Nat->Nat->Int):Prop where
 x:g X=some ⟨true,2,[[.own o1 0 n,.own o2 0 n]]⟩
 t1:g o1=some ⟨true,1,kJ R1 n n⟩
 t2:g o2=some ⟨true,1,kJ R2 n n⟩
 r1:∀i,i<n->g (R1 i)=some ⟨true,1,dD (c i) n⟩
 r2:∀i,i<n->g (R2 i)=some ⟨true,1,dD (f i) n⟩
theorem mY.frame {g g':Rows} {X o1 o2:Id} {R1 R2:Nat->Id} {n nb:Nat} {c f:Nat->Nat->Int} (I:EC X o1 o2 R1 R2 n nb) (h:mY g X o1 o2 R1 R2 n c f) (hf:∀i:Id,i.aW<nb->g' i=g i):mY g' X o1 o2 R1 R2 n c f:=
 ⟨(hf _ I.vx).trans h.x,(hf _ I.v1).trans h.t1,(hf _ I.v2).trans h.t2,fun i hi=>(hf _ (I.Q6 i hi)).trans (h.r1 i hi),fun i hi=>(hf _ (I.Ov i hi)).trans (h.r2 i hi)⟩
theorem nF {f:Nat->Nat->Int} {a b:Nat} {d:Int} {n:Nat} (hb:b<n):(dD (f a) n).set b (bq (f a b+d))=dD (bump f a b d a) n:=kK hb (by simp[bump]) fun i _ hi=>by simp[bump,hi]
theorem jM {f:Nat->Nat->Int} {a b i:Nat} {d:Int} (h:i≠a):bump f a b d i=f i:=by funext v;simp[bump,h]
theorem mY.add {g g':Rows} {X o1 o2:Id} {R1 R2:Nat->Id} {n nb:Nat} {c f:Nat->Nat->Int} (I:EC X o1 o2 R1 R2 n nb) (h:mY g X o1 o2 R1 R2 n c f) (b:PB) (ha:b.a<n) (hb:b.b<n) (hA:b.a≠b.b->g' (R1 b.a)=some ⟨true,1,dD (bump c b.a b.b b.s b.a) n⟩) (hB:g' (R1 b.b)=some ⟨true,1,dD (nh c b b.b) n⟩) (hf:∀i:Id,i.aW<nb->(i=R1 b.a)=False->(i=R1 b.b)=False->g' i=g i):mY g' X o1 o2 R1 R2 n (nh c b) f:=by
 have ne:∀{i:Id} {s:Nat},i.site=s->(s==245004006)=false->∀a,a<n->(i=R1 a)=False:=fun {i s} hi hs a ha=>by
  simp only[eq_iff_iff,iff_false]
  rintro rfl
  rw[I.Q4 a ha]at hi
  subst hi
  simp at hs
 refine⟨(hf _ I.vx (ne I.sx (by decide) _ ha) (ne I.sx (by decide) _ hb)).trans h.x,(hf _ I.v1 (ne I.s1 (by decide) _ ha) (ne I.s1 (by decide) _ hb)).trans h.t1,(hf _ I.v2 (ne I.s2 (by decide) _ ha) (ne I.s2 (by decide) _ hb)).trans h.t2,fun i hi=>?_,fun i hi=>(hf _ (I.Ov i hi) (ne (I.Lt i hi) (by decide) _ ha) (ne (I.Lt i hi) (by decide) _ hb)).trans (h.r2 i hi)⟩
 by_cases I7:i=b.b
 ·subst I7;exact hB
 ·by_cases I6:i=b.a
  ·subst I6
   rw[hA I7,nh,jM I7]
  ·rw[nh,jM I7,jM I6,hf _ (I.Q6 i hi) (by simp only[eq_iff_iff,iff_false];exact fun he=>I6 (I.i1 i _ hi ha he)) (by simp only[eq_iff_iff,iff_false];exact fun he=>I7 (I.i1 i _ hi hb he))]
   exact h.r1 i hi
def k7 (n:Nat) (c f:Nat->Nat->Int):List AV:=[.sl (wN c n),.sl (wN f n)]
theorem Ep {g:Rows} {R:Nat->Id} {n k:Nat} {c:Nat->Nat->Int} (h:∀i,i<k->g (R i)=some ⟨true,1,dD (c i) n⟩) (m:Nat):dJ (eh g) (m+3) (kJ R n k)=some ((List.range k).map fun i=>[.sl (dD (c i) n)]):=by
 induction k with
 |zero=>rw[show kJ R n 0=[]from rfl,dJ];rfl
 |succ k ih=>
  have e1:V.fz (eh g) (m+3) (.own (R k) 0 n)=some (.sl (dD (c k) n)):=by
   rw[il];simp only[eh,h k (by omega),Option.map_some,if_true]
   rw[if_pos (by rw[cZ];omega),List.drop_zero,List.take_of_length_le (by rw[cZ];omega),zk];rfl
  have app:∀(xs ys:List (List AV)) (Q7 Qf:List (List AV)),dJ (eh g) (m+3) xs=some Q7->dJ (eh g) (m+3) ys=some Qf->dJ (eh g) (m+3) (xs++ys)=some (Q7++Qf):=by
   intro xs
   induction xs with
   |nil=>intro ys Q7 Qf h1 h2;rw[dJ]at h1;cases h1;exact h2
   |cons a xs ih2=>
    intro ys Q7 Qf h1 h2
    rw[dJ]at h1
    rw[List.cons_append,dJ]
    cases ha:cH (eh g) (m+3) a with
    |none=>simp[ha]at h1
    |some a'=>
     cases hb:dJ (eh g) (m+3) xs with
     |none=>simp[ha,hb]at h1
     |some b'=>
      simp[ha,hb]at h1
      subst h1
      rw[ih2 ys b' Qf hb h2];rfl
  rw[r4,List.range_succ,List.map_append]
  refine app _ _ _ _ (ih fun i hi=>h i (by omega)) ?_
  rw[dJ,ao,aq,e1,dJ];rfl
theorem mY.fz {g:Rows} {X o1 o2:Id} {R1 R2:Nat->Id} {n:Nat} {c f:Nat->Nat->Int} (h:mY g X o1 o2 R1 R2 n c f):V.fz (eh g) 6 (.ptr X 0 0)=some (.bK (k7 n c f)):=by
 refine rC (sz:=2) (rows:=[[.own o1 0 n,.own o2 0 n]]) (by simp[eh,h.x]) rfl ?_
 have e1:V.fz (eh g) 5 (.own o1 0 n)=some (.sl (wN c n)):=by
  rw[il];simp only[eh,h.t1,Option.map_some,if_true]
  rw[if_pos (by rw[jU];omega),List.drop_zero,List.take_of_length_le (by rw[jU];omega)]
  rw[show dJ _ 4 _=some (wN c n)from Ep h.r1 1];rfl
 have e2:V.fz (eh g) 5 (.own o2 0 n)=some (.sl (wN f n)):=by
  rw[il];simp only[eh,h.t2,Option.map_some,if_true]
  rw[if_pos (by rw[jU];omega),List.drop_zero,List.take_of_length_le (by rw[jU];omega)]
  rw[show dJ _ 4 _=some (wN f n)from Ep h.r2 1];rfl
 simp only[List.drop_zero,ao,aq,e1,e2,k7,Option.map_some]
theorem L7 (n:Nat) (c f:Nat->Nat->Int) (u v:Nat) (hu:u<n) (hv:v<n):aj Tryz.prog 272 [.bK (k7 n c f),.int .i64 u,.int .i64 v] (.bool (decide (f u v<c u v))):=by
 refine aj.body ej rfl fun hl n0=>?_
 clear hl
 have h1:=Bi (c:=c) hu
 have h2:=Bi (c:=f) hu
 have h3:=dz (f:=c u) hv
 have h4:=dz (f:=f u) hv
 have hui:(u:Int)<(n:Int):=by omega
 have CA:(v:Int)<(n:Int):=by omega
 have l1:=vL c n
 have l2:=vL f n
 have l3:=cZ (c u) n
 have l4:=cZ (f u) n
 rw[bq]at h3 h4
 (try((repeat(revert hN;revert N;apply Pn.out));refine wk (tw @k7.eq_1 (tw @h1 (tw @h2 (tw @h3 (tw @h4 (tw @hui (tw @CA (tw @l1 (tw @l2 (tw @l3 @l4)))))))))) ?_;(repeat(refine Pn.mk ?_;intro N hN))))
 exact aI (b:=decide (f u v<c u v)) (.inl rfl) (sd @Nat.zero_add) rfl
end Go.Proofs.YtgoelphibofcmaaGreat.V

namespace Go.Proofs.YtgoelphibofcmaaGreat.V
open Go.RowKit
attribute [local irreducible] dI wpOps ib Call
attribute [local go_sem] aJ gu eW gR gQ cE upd cw K.av cY AV.cells AV.cell rowOf rowsOf part ld rowAt bB cr dY eG jq bP dq eT gP fx dE eK dn dm eu ew bU bp db bR de dc eI eL eJ da cm dp eH bQ aO di cI jo bE cU bV aY du aV ea AV.undef bG bJ eA eE ei ep cJ eR eV cG eO eM dh dj List.getD_cons_zero List.getD_cons_succ List.getD_nil List.all_cons List.all_nil Bool.and_true Bool.true_and Bool.and_self Bool.not_true Bool.not_false Option.map_some Option.map_none Option.bind_some Option.bind_none List.length_cons List.length_nil List.take_succ_cons List.take_zero List.take_nil List.drop_succ_cons List.drop_zero List.drop_nil List.head?_cons List.map_cons List.map_nil List.getElem?_cons_zero List.getElem?_cons_succ List.cons_append List.nil_append List.append_nil List.length_map List.set_cons_zero List.set_cons_succ Nat.reduceMul eq_self Int.toNat_natCast Int.natCast_nonneg and_self true_and and_true decide_true decide_false Bool.false_eq_true Nat.zero_add Nat.add_zero List.contains_cons List.contains_nil Bool.or_false Bool.false_or beq_self_eq_true Nat.reduceBEq ne_eq not_true_eq_false not_false_eq_true Id.mk.injEq false_and and_false Nat.reduceLT Int.reduceLE Int.reduceLT Int.reduceToNat Int.reduceNeg Int.reduceAdd Nat.le_refl List.length_append beq_true beq_false Bool.not_eq_eq_eq_not or_false false_or eh ao aq aK br bI cC bc bz aQ bt cX cj
theorem F4 (n:Nat):List.replicate n [AV.int .i64 0]=dD (fun _=>0) n:=by
 refine List.ext_getElem? fun i=>?_
 by_cases h:i<n
 ·rw[dz h,List.getElem?_replicate,if_pos h];rfl
 ·rw[List.getElem?_eq_none (by simp;omega),List.getElem?_eq_none (by rw[cZ];omega)]
theorem zh {i j:Id} {s t:Nat} (hi:i.site=s) (hj:j.site=t) (h:(s==t)=false):(i=j)=False/\(j=i)=False:=by
 constructor<;>(simp only[eq_iff_iff,iff_false];rintro rfl;rw[hi]at hj;subst hj;simp at h)
theorem AZ (cnt:Nat) (zH:1<=cnt) (hn:cnt<=1048576) (bs:List PB) (hb:∀b∈bs,b.a<cnt/\b.b<cnt) (cK:∀b∈bs,0<=b.s/\b.s<=4) (ml:bs.length<=1048576) (σ:ar):
  Call Tryz.prog 245 [.int .i64 cnt,.sl (bs.map ay)] σ fun r σ'=>∃X o1 o2 R1 R2,r=.ptr X 0 0/\EC X o1 o2 R1 R2 cnt σ'.next/\σ.next<=σ'.next/\mY σ'.get X o1 o2 R1 R2 cnt (kG bs) (fun _ _=>0)/\∀i:Id,i.aW<σ.next->σ'.get i=σ.get i:=by
 refine gT ej rfl fun hl=>?_
 clear hl
 (try((repeat(revert hN;revert N;apply Pn.out));refine wk @Nat.zero_add ?_;(repeat(refine Pn.mk ?_;intro N hN))))
 obtain⟨X,hX⟩:∃X:Id,X=⟨245001001,σ.next+1⟩:=⟨_,rfl⟩
 obtain⟨R1,RL⟩:∃R:Nat->Id,R=fun k=>⟨245004006,σ.next+3+4*k+1⟩:=⟨_,rfl⟩
 obtain⟨R2,RM⟩:∃R:Nat->Id,R=fun k=>⟨245005006,σ.next+3+4*k+2⟩:=⟨_,rfl⟩
 have sX:X.site=245001001:=by rw[hX]
 have vX:X.aW=σ.next+1:=by rw[hX]
 have s1:∀k,(R1 k).site=245004006:=fun k=>by rw[RL]
 have s2:∀k,(R2 k).site=245005006:=fun k=>by rw[RM]
 have v1:∀k,(R1 k).aW=σ.next+3+4*k+1:=fun k=>by rw[RL]
 have v2:∀k,(R2 k).aW=σ.next+3+4*k+2:=fun k=>by rw[RM]
 have ju:(0:Int)<=(cnt:Int):=by omega
 have pc:(cnt:Int)<=((16777216:Nat):Int):=by omega
 have hz:=F4 cnt
 have t1:kJ R1 cnt 0=[]:=rfl
 have t2:kJ R2 cnt 0=[]:=rfl
 refine aH (fun n env st=>∃k:Nat,n=(cnt)-k/\k<=(cnt)/\env 11=.int .i64 (k:Int)/\env 5=(.ptr X 0 0)/\(st.next=σ.next+3+4*k/\(∀i:Id,i.aW<σ.next->st.get i=σ.get i)/\∀j,j<k->st.get (R1 j)=some ⟨true,1,dD (fun _=>0) cnt⟩/\st.get (R2 j)=some ⟨true,1,dD (fun _=>0) cnt⟩)/\((k=0/\st.get X=some ⟨true,2,[[.cu,.cu]]⟩)∨∃o1 o2:Id,o1.site=245004008/\o2.site=245005008/\o1.aW<st.next/\o2.aW<st.next/\σ.next<=o1.aW/\σ.next<=o2.aW/\st.get X=some ⟨true,2,[[.own o1 0 k,.own o2 0 k]]⟩/\st.get o1=some ⟨true,1,kJ R1 cnt k⟩/\st.get o2=some ⟨true,1,kJ R2 cnt k⟩)) (cnt) ⟨0,by omega,by omega,sl @hX,sl @hX,⟨rfl,fun i hi=>by(have CA:=dv hi);simp only[go_sem, ↓reduceIte,Nat.reduceEqDiff,Nat.reduceAdd,Nat.reduceSub,Nat.reduceLeDiff,reduceCtorEq,CA],fun j hj=>absurd hj (Nat.not_lt_zero j)⟩,.inl ⟨rfl,by rw[hX];simp only[go_sem, ↓reduceIte,Nat.reduceEqDiff,Nat.reduceAdd,Nat.reduceSub,Nat.reduceLeDiff,reduceCtorEq]⟩⟩ ?_
 rintro n_a env_a st_a ⟨k,rfl,ale,BR,a5,nf,aI1⟩ dt
 have a0:=dt 0 (by kernel_rfl);have a1:=dt 1 (by kernel_rfl);have wR:=dt 10 (by kernel_rfl)
 simp only[go_sem, ↓reduceIte,Nat.reduceEqDiff,Nat.reduceAdd,Nat.reduceSub,Nat.reduceLeDiff,reduceCtorEq,hX]at a0 a1 wR
 clear dt
 obtain⟨anx,dt,aR⟩:=nf
 have wX:=dv (i:=X) (n:=st_a.next) (by omega)
 by_cases hk:(k:Int)<(cnt:Int)
 ·have bY:∀{e:Env} {gg:Rows} {nx:Nat},(e 11=.int .i64 (IntKind.i64.wrap ((k:Int)+1)))->(e 5=(.ptr X 0 0))->(nx=σ.next+3+4*(k+1)/\(∀i:Id,i.aW<σ.next->gg i=σ.get i)/\∀j,j<(k+1)->gg (R1 j)=some ⟨true,1,dD (fun _=>0) cnt⟩/\gg (R2 j)=some ⟨true,1,dD (fun _=>0) cnt⟩)->(((k+1)=0/\gg X=some ⟨true,2,[[.cu,.cu]]⟩)∨∃o1 o2:Id,o1.site=245004008/\o2.site=245005008/\o1.aW<nx/\o2.aW<nx/\σ.next<=o1.aW/\σ.next<=o2.aW/\gg X=some ⟨true,2,[[.own o1 0 (k+1),.own o2 0 (k+1)]]⟩/\gg o1=some ⟨true,1,kJ R1 cnt (k+1)⟩/\gg o2=some ⟨true,1,kJ R2 cnt (k+1)⟩)->∃m0,m0<(cnt)-k/\∃k:Nat,m0=(cnt)-k/\k<=(cnt)/\e 11=.int .i64 (k:Int)/\e 5=(.ptr X 0 0)/\(nx=σ.next+3+4*k/\(∀i:Id,i.aW<σ.next->gg i=σ.get i)/\∀j,j<k->gg (R1 j)=some ⟨true,1,dD (fun _=>0) cnt⟩/\gg (R2 j)=some ⟨true,1,dD (fun _=>0) cnt⟩)/\((k=0/\gg X=some ⟨true,2,[[.cu,.cu]]⟩)∨∃o1 o2:Id,o1.site=245004008/\o2.site=245005008/\o1.aW<nx/\o2.aW<nx/\σ.next<=o1.aW/\σ.next<=o2.aW/\gg X=some ⟨true,2,[[.own o1 0 k,.own o2 0 k]]⟩/\gg o1=some ⟨true,1,kJ R1 cnt k⟩/\gg o2=some ⟨true,1,kJ R2 cnt k⟩):=fun x1 x2 x3 x4=>⟨_,by omega,k+1,rfl,by omega,(by rw[x1,ax (by omega)]),x2,x3,x4⟩
  have eZ:k<cnt:=by omega
  have vZ:R1 k=⟨245004006,st_a.next+1⟩:=by rw[RL,anx]
  have uA:R2 k=⟨245005006,st_a.next+1+1⟩:=by rw[RM,anx]
  have D6:kJ R1 cnt (k+1)=kJ R1 cnt k++[[.own ⟨245004006,st_a.next+1⟩ 0 cnt]]:=by rw[r4,vZ]
  have Of:kJ R2 cnt (k+1)=kJ R2 cnt k++[[.own ⟨245005006,st_a.next+1+1⟩ 0 cnt]]:=by rw[r4,uA]
  rcases aI1 with⟨rfl,OA⟩|⟨o1,o2,so1,so2,vo1,vo2,vn1,vn2,OA,ag1,ag2⟩
  ·(try((repeat(revert hN;revert N;apply Pn.out));refine wk (tw @BR (tw @a5 (tw @a0 (tw @a1 (tw @wR (tw @hk (tw @wX (tw @OA (tw @ju (tw @pc (tw @Int.le_refl @hz))))))))))) ?_;(repeat(refine Pn.mk ?_;intro N hN))))
   refine bY ?_ ?_ (by
    (try dsimp only)
    refine⟨by omega,fun i hi=>?_,fun j hj=>?_⟩
    ·have q1:=dv (i:=i) (n:=st_a.next) (by omega)
     have q2:=cQ (a:=i) (b:=X) (by omega)
     have:=dt i hi
     simp only[go_sem, ↓reduceIte,Nat.reduceEqDiff,Nat.reduceAdd,Nat.reduceSub,Nat.reduceLeDiff,reduceCtorEq,q1,q2,this]
    ·by_cases xi:j=0
     ·subst xi
      rw[vZ,uA]
      have q1:=gE sX (b:=245004006) (v:=st_a.next+1) (by decide)
      have q2:=gE sX (b:=245005006) (v:=st_a.next+1+1) (by decide)
      simp only[go_sem, ↓reduceIte,Nat.reduceEqDiff,Nat.reduceAdd,Nat.reduceSub,Nat.reduceLeDiff,reduceCtorEq,q1,q2]
     ·obtain⟨r1,r2⟩:=aR j (by omega)
      have q1:=dv (i:=R1 j) (n:=st_a.next) (by rw[v1];omega)
      have q2:=dv (i:=R2 j) (n:=st_a.next) (by rw[v2];omega)
      have q3:=zh (s1 j) sX (by decide)
      have q4:=zh (s2 j) sX (by decide)
      constructor
      ·simp only[go_sem, ↓reduceIte,Nat.reduceEqDiff,Nat.reduceAdd,Nat.reduceSub,Nat.reduceLeDiff,reduceCtorEq,q1,q3,r1]
      ·simp only[go_sem, ↓reduceIte,Nat.reduceEqDiff,Nat.reduceAdd,Nat.reduceSub,Nat.reduceLeDiff,reduceCtorEq,q2,q4,r2]) (.inr ⟨⟨245004008,st_a.next+1⟩,⟨245005008,st_a.next+1+1⟩,rfl,rfl,by(try dsimp only);omega,by(try dsimp only);omega,by(try dsimp only);omega,by(try dsimp only);omega,sd @wX,by rw[D6,t1];simp only[go_sem, ↓reduceIte,Nat.reduceEqDiff,Nat.reduceAdd,Nat.reduceSub,Nat.reduceLeDiff,reduceCtorEq,wX,List.nil_append],by rw[Of,t2];simp only[go_sem, ↓reduceIte,Nat.reduceEqDiff,Nat.reduceAdd,Nat.reduceSub,Nat.reduceLeDiff,reduceCtorEq,wX,List.nil_append]⟩)
   all_goals simp only[go_sem, ↓reduceIte,Nat.reduceEqDiff,Nat.reduceAdd,Nat.reduceSub,Nat.reduceLeDiff,reduceCtorEq,BR,a5,a0,a1,wR,wX]
  ·have l1:=jU R1 cnt k
   have l2:=jU R2 cnt k
   have e1:k+1<=16777216:=by omega
   have w1:=dv vo1
   have w2:=dv vo2
   have x1:=zh sX so1 (by decide)
   have x2:=zh sX so2 (by decide)
   have x3:=zh so1 so2 (by decide)
   (try((repeat(revert hN;revert N;apply Pn.out));refine wk (tw @BR (tw @a5 (tw @a0 (tw @a1 (tw @wR (tw @hk (tw @wX (tw @OA (tw @ag1 (tw @ag2 (tw @l1 (tw @l2 (tw @e1 (tw @w1 (tw @w2 (tw @x1 (tw @x2 (tw @x3 (tw @ju (tw @pc (tw @Int.le_refl @hz))))))))))))))))))))) ?_;(repeat(refine Pn.mk ?_;intro N hN))))
   refine bY ?_ ?_ (by
    (try dsimp only)
    refine⟨by omega,fun i hi=>?_,fun j hj=>?_⟩
    ·have q1:=dv (i:=i) (n:=st_a.next) (by omega)
     have q2:=cQ (a:=i) (b:=X) (by omega)
     have q3:=cQ (a:=i) (b:=o1) (by omega)
     have q4:=cQ (a:=i) (b:=o2) (by omega)
     have:=dt i hi
     simp only[go_sem, ↓reduceIte,Nat.reduceEqDiff,Nat.reduceAdd,Nat.reduceSub,Nat.reduceLeDiff,reduceCtorEq,q1,q2,this,q3,q4]
    ·by_cases xi:j=k
     ·subst xi
      rw[vZ,uA]
      have q1:=gE sX (b:=245004006) (v:=st_a.next+1) (by decide)
      have q2:=gE sX (b:=245005006) (v:=st_a.next+1+1) (by decide)
      simp only[go_sem, ↓reduceIte,Nat.reduceEqDiff,Nat.reduceAdd,Nat.reduceSub,Nat.reduceLeDiff,reduceCtorEq,q1,q2,w1,w2]
     ·obtain⟨r1,r2⟩:=aR j (by omega)
      have q1:=dv (i:=R1 j) (n:=st_a.next) (by rw[v1];omega)
      have q2:=dv (i:=R2 j) (n:=st_a.next) (by rw[v2];omega)
      have q3:=zh (s1 j) sX (by decide)
      have q4:=zh (s2 j) sX (by decide)
      have q5:=zh (s1 j) so1 (by decide)
      have q6:=zh (s1 j) so2 (by decide)
      have q7:=zh (s2 j) so1 (by decide)
      have q8:=zh (s2 j) so2 (by decide)
      constructor
      ·simp only[go_sem, ↓reduceIte,Nat.reduceEqDiff,Nat.reduceAdd,Nat.reduceSub,Nat.reduceLeDiff,reduceCtorEq,q1,q3,r1,q5,q6]
      ·simp only[go_sem, ↓reduceIte,Nat.reduceEqDiff,Nat.reduceAdd,Nat.reduceSub,Nat.reduceLeDiff,reduceCtorEq,q2,q4,r2,q7,q8]) (.inr ⟨⟨245004008,st_a.next+1⟩,⟨245005008,st_a.next+1+1⟩,rfl,rfl,by(try dsimp only);omega,by(try dsimp only);omega,by(try dsimp only);omega,by(try dsimp only);omega,sd @wX,by rw[D6];simp only[go_sem, ↓reduceIte,Nat.reduceEqDiff,Nat.reduceAdd,Nat.reduceSub,Nat.reduceLeDiff,reduceCtorEq,wX,w1,w2],by rw[Of];simp only[go_sem, ↓reduceIte,Nat.reduceEqDiff,Nat.reduceAdd,Nat.reduceSub,Nat.reduceLeDiff,reduceCtorEq,wX,w1,w2]⟩)
   all_goals simp only[go_sem, ↓reduceIte,Nat.reduceEqDiff,Nat.reduceAdd,Nat.reduceSub,Nat.reduceLeDiff,reduceCtorEq,BR,a5,a0,a1,wR,wX,w1,w2,x1,x2,x3]
 have kQ:cnt=k:=by omega
 subst kQ
 rcases aI1 with⟨h0,_⟩|⟨o1,o2,so1,so2,vo1,vo2,vn1,vn2,OA,ag1,ag2⟩
 ·omega
 (try((repeat(revert hN;revert N;apply Pn.out));refine wk (tw @BR (tw @a5 (tw @a0 (tw @a1 (tw @wR @hk))))) ?_;(repeat(refine Pn.mk ?_;intro N hN))))
 have I:EC X o1 o2 R1 R2 cnt st_a.next:=⟨sX,so1,so2,fun i _=>s1 i,fun i _=>s2 i,fun i j _ _ h=>by have:=v1 i;rw[h,v1]at this;omega,fun i j _ _ h=>by have:=v2 i;rw[h,v2]at this;omega,by omega,vo1,vo2,fun i hi=>by rw[v1];omega,fun i hi=>by rw[v2];omega⟩
 refine aH (fun n env st=>∃i:Nat,n=(bs.length)-i/\i<=(bs.length)/\env 38=.int .i64 (i:Int)/\(st_a.next<=st.next/\(∀x:Id,x.aW<σ.next->st.get x=σ.get x)/\mY st.get X o1 o2 R1 R2 cnt (kG (bs.take i)) (fun _ _=>0))) (bs.length) ⟨0,by omega,by omega,sl (tw @BR (tw @a5 (tw @a0 (tw @a1 @wR)))),⟨by(try dsimp only);omega,dt,OA,ag1,ag2,fun j hj=>(aR j hj).1,fun j hj=>(aR j hj).2⟩⟩ ?_
 rintro n_b env_b st_b ⟨i,rfl,ble,b38,bI0⟩ ec
 have b0:=ec 0 (by kernel_rfl);have b1:=ec 1 (by kernel_rfl);have b5:=ec 5 (by kernel_rfl);have NY:=ec 36 (by kernel_rfl);have NZ:=ec 37 (by kernel_rfl)
 simp only[go_sem, ↓reduceIte,Nat.reduceEqDiff,Nat.reduceAdd,Nat.reduceSub,Nat.reduceLeDiff,reduceCtorEq,BR,a5,a0,a1,wR]at b0 b1 b5 NY NZ
 clear ec
 obtain⟨bn,LQ,bM⟩:=bI0
 by_cases hi:(i:Int)<(bs.length:Int)
 ·have er:∀{e:Env} {gg:Rows} {nx:Nat},(e 38=.int .i64 (IntKind.i64.wrap ((i:Int)+1)))->(st_a.next<=nx/\(∀x:Id,x.aW<σ.next->gg x=σ.get x)/\mY gg X o1 o2 R1 R2 cnt (kG (bs.take (i+1))) (fun _ _=>0))->∃m0,m0<(bs.length)-i/\∃i:Nat,m0=(bs.length)-i/\i<=(bs.length)/\e 38=.int .i64 (i:Int)/\(st_a.next<=nx/\(∀x:Id,x.aW<σ.next->gg x=σ.get x)/\mY gg X o1 o2 R1 R2 cnt (kG (bs.take i)) (fun _ _=>0)):=fun x1 x2=>⟨_,by omega,i+1,rfl,by omega,(by rw[x1,ax (by omega)]),x2⟩
  have fA:i<bs.length:=by omega
  have jY:(bs.map ay)[i]? =some (ay bs[i]):=by simp[fA]
  have ft:=hb _ (List.getElem_mem fA)
  have hsi:=cK _ (List.getElem_mem fA)
  have oY:kG (bs.take (i+1))=nh (kG (bs.take i)) bs[i]:=by rw[List.take_succ_eq_append_getElem fA,C3]
  have ox:=y9 (bs.take i) (fun _ _=>0) (fun b hb=>(cK b (List.mem_of_mem_take hb)).1) (fun _ _=>Int.le_refl _)
  have hle:=room_le (bs.take i) (fun _ _=>0) 0 (fun b hb=>(cK b (List.mem_of_mem_take hb)).2) (fun _ _=>Int.le_refl _) (Int.le_refl _)
  rw[List.length_take]at hle
  have fU:(bs.take i).foldl nh (fun _ _=>0)=kG (bs.take i):=rfl
  rw[fU]at ox hle
  generalize kG (bs.take i)=c at *
  generalize bs[i]=b at *
  obtain⟨ha,rG⟩:=ft
  have gA:=qP (R:=R1) (n:=cnt) ha
  have gB:=qP (R:=R1) (n:=cnt) rG
  have rA:=bM.r1 _ ha
  have rB:=bM.r1 _ rG
  have cA:=dz (f:=c b.a) rG
  have cB:=dz (f:=c b.b) ha
  have sA:=nF (f:=c) (a:=b.a) (d:=b.s) rG
  have gX:=bM.x
  have g1:=bM.t1
  have gi:(b.a:Int)<(cnt:Int):=by omega
  have ft:(b.b:Int)<(cnt:Int):=by omega
  have qX:=dv (i:=X) (n:=st_b.next) (by omega)
  have q1:=dv (i:=o1) (n:=st_b.next) (by omega)
  have qA:=dv (i:=R1 b.a) (n:=st_b.next) (by rw[v1];omega)
  have qB:=dv (i:=R1 b.b) (n:=st_b.next) (by rw[v1];omega)
  have xA:=zh sX (s1 b.a) (by decide)
  have xB:=zh sX (s1 b.b) (by decide)
  have yA:=zh so1 (s1 b.a) (by decide)
  have yB:=zh so1 (s1 b.b) (by decide)
  have l1:=jU R1 cnt cnt
  have lA:=cZ (c b.a) cnt
  have lB:=cZ (c b.b) cnt
  have hAB:=hle b.a b.b
  have hBA:=hle b.b b.a
  have gAB:=ox b.a b.b
  have gBA:=ox b.b b.a
  have wA:IntKind.i64.wrap (c b.a b.b+b.s)=c b.a b.b+b.s:=aZ (by omega)
  by_cases sE:b.a=b.b
  ·obtain⟨ba,bb,s⟩:=b
   dsimp only at *
   subst sE
   have MR:=nF (f:=bump c ba ba s) (a:=ba) (b:=ba) (d:=s) (n:=cnt) ha
   have RQ:=dz (f:=bump c ba ba s ba) ha
   have hv:bump c ba ba s ba ba=c ba ba+s:=by simp[bump]
   have lC:=cZ (bump c ba ba s ba) cnt
   have wB:IntKind.i64.wrap (c ba ba+s+s)=c ba ba+s+s:=aZ (by omega)
   rw[hv]at MR RQ
   have rH:nh c ⟨ba,ba,s⟩ ba=bump (bump c ba ba s) ba ba s ba:=rfl
   rw[bq]at cA sA MR RQ
   (try((repeat(revert hN;revert N;apply Pn.out));refine wk (tw @b38 (tw @b0 (tw @b1 (tw @b5 (tw @NY (tw @NZ (tw @hi (tw @jY (tw @ay.eq_1 (tw @gA (tw @rA (tw @cA (tw @sA (tw @gX (tw @g1 (tw @gi (tw @qX (tw @q1 (tw @qA (tw @xA (tw @yA (tw @l1 (tw @lA (tw @wA (tw @MR (tw @RQ (tw @lC @wB))))))))))))))))))))))))))) ?_;(repeat(refine Pn.mk ?_;intro N hN))))
   exact er (sd (tw @b38 (tw @b0 (tw @b1 (tw @b5 (tw @NY @NZ)))))) (by
    (try dsimp only)
    refine⟨by omega,fun x hx=>?_,?_⟩
    ·have p1:=dv (i:=x) (n:=st_b.next) (by omega)
     have p2:=cQ (a:=x) (b:=R1 ba) (by rw[v1];omega)
     have:=LQ x hx
     simp only[go_sem, ↓reduceIte,Nat.reduceEqDiff,Nat.reduceAdd,Nat.reduceSub,Nat.reduceLeDiff,reduceCtorEq,p1,p2,this]
    ·rw[oY]
     refine bM.add I ⟨ba,ba,s⟩ ha ha (fun h=>absurd rfl h) ?_ fun x hx h1 h2=>?_
     ·rw[rH]
      simp only[go_sem, ↓reduceIte,Nat.reduceEqDiff,Nat.reduceAdd,Nat.reduceSub,Nat.reduceLeDiff,reduceCtorEq]
     ·have p1:=dv (i:=x) (n:=st_b.next) (by omega)
      (try dsimp only at h2)
      simp only[go_sem, ↓reduceIte,Nat.reduceEqDiff,Nat.reduceAdd,Nat.reduceSub,Nat.reduceLeDiff,reduceCtorEq,p1,h2])
  ·have fY:(R1 b.a=R1 b.b)=False:=by simp only[eq_iff_iff,iff_false];exact fun h=>sE (I.i1 _ _ ha rG h)
   have Ho:(R1 b.b=R1 b.a)=False:=by simp only[eq_iff_iff,iff_false];exact fun h=>sE (I.i1 _ _ ha rG h.symm)
   have MI:bump c b.a b.b b.s b.b=c b.b:=jM fun h=>sE h.symm
   have MR:=nF (f:=bump c b.a b.b b.s) (a:=b.b) (b:=b.a) (d:=b.s) (n:=cnt) ha
   rw[MI]at MR
   have wB:IntKind.i64.wrap (c b.b b.a+b.s)=c b.b b.a+b.s:=aZ (by omega)
   have rH:nh c b b.b=bump (bump c b.a b.b b.s) b.b b.a b.s b.b:=rfl
   rw[bq]at cA cB sA MR
   (try((repeat(revert hN;revert N;apply Pn.out));refine wk (tw @b38 (tw @b0 (tw @b1 (tw @b5 (tw @NY (tw @NZ (tw @hi (tw @jY (tw @ay.eq_1 (tw @gA (tw @gB (tw @rA (tw @rB (tw @cA (tw @cB (tw @sA (tw @gX (tw @g1 (tw @gi (tw @ft (tw @qX (tw @q1 (tw @qA (tw @qB (tw @xA (tw @xB (tw @yA (tw @yB (tw @l1 (tw @lA (tw @lB (tw @wA (tw @MR (tw @wB (tw @fY @Ho))))))))))))))))))))))))))))))))))) ?_;(repeat(refine Pn.mk ?_;intro N hN))))
   exact er (sd (tw @b38 (tw @b0 (tw @b1 (tw @b5 (tw @NY @NZ)))))) (by
    (try dsimp only)
    refine⟨by omega,fun x hx=>?_,?_⟩
    ·have p1:=dv (i:=x) (n:=st_b.next) (by omega)
     have p2:=cQ (a:=x) (b:=R1 b.b) (by rw[v1];omega)
     have p3:=cQ (a:=x) (b:=R1 b.a) (by rw[v1];omega)
     have:=LQ x hx
     simp only[go_sem, ↓reduceIte,Nat.reduceEqDiff,Nat.reduceAdd,Nat.reduceSub,Nat.reduceLeDiff,reduceCtorEq,p1,p2,p3,this]
    ·rw[oY]
     refine bM.add I b ha rG (fun h=>?_) ?_ fun x hx h1 h2=>?_
     ·simp only[go_sem, ↓reduceIte,Nat.reduceEqDiff,Nat.reduceAdd,Nat.reduceSub,Nat.reduceLeDiff,reduceCtorEq,fY]
     ·rw[rH]
      simp only[go_sem, ↓reduceIte,Nat.reduceEqDiff,Nat.reduceAdd,Nat.reduceSub,Nat.reduceLeDiff,reduceCtorEq,fY]
     ·have p1:=dv (i:=x) (n:=st_b.next) (by omega)
      simp only[go_sem, ↓reduceIte,Nat.reduceEqDiff,Nat.reduceAdd,Nat.reduceSub,Nat.reduceLeDiff,reduceCtorEq,p1,h1,h2])
 ·have lv:i=bs.length:=by omega
  subst lv
  rw[List.take_length]at bM
  (try((repeat(revert hN;revert N;apply Pn.out));refine wk (tw @b38 (tw @b0 (tw @b1 (tw @b5 (tw @NY (tw @NZ @hi)))))) ?_;(repeat(refine Pn.mk ?_;intro N hN))))
  exact gD (.inl rfl) (vs:=[.ptr X 0 0]) (sd @Nat.zero_add) ⟨X,o1,o2,R1,R2,rfl,⟨I.sx,I.s1,I.s2,I.Q4,I.Lt,I.i1,I.i2,by have:=I.vx;(try dsimp only);omega,by have:=I.v1;(try dsimp only);omega,by have:=I.v2;(try dsimp only);omega,fun j hj=>by have:=I.Q6 j hj;(try dsimp only);omega,fun j hj=>by have:=I.Ov j hj;(try dsimp only);omega⟩,by(try dsimp only);omega,bM,LQ⟩
end Go.Proofs.YtgoelphibofcmaaGreat.V

namespace Go.Proofs.YtgoelphibofcmaaGreat.V
structure Bq (n:Nat) (c f:Nat->Nat->Int) (x:Nat) (par:Nat->Int) (Q:List Nat) (i:Nat):Prop where
 nodup:Q.Nodup
 lt:∀v∈Q,v<n
 root:par x=(x:Int)
 mem:x∈Q
 iff:∀v,v<n->(0<=par v↔v∈Q)
 up:∀v∈Q,v≠x->∃u,u∈Q/\par v=(u:Int)/\Q.idxOf u<Q.idxOf v/\f u v<c u v
 done:∀j (_:j<i) (hl:j<Q.length) (v:Nat),v<n->f Q[j] v<c Q[j] v->v∈Q
 ile:i<=Q.length
section
variable {n:Nat} {c f:Nat->Nat->Int} {x:Nat} {par:Nat->Int} {Q:List Nat} {i:Nat}
theorem Bq.len (h:Bq n c f x par Q i):Q.length<=n:=nU n Q h.nodup h.lt
theorem Bq.start (hx:x<n):Bq n c f x (fun v=>if v=x then(x:Int)else -1) [x] 0:=by
 refine⟨by simp,fun v hv=>by simp at hv;omega,by simp,by simp,fun v hv=>?_,fun v hv fY=>absurd (by simpa using hv) fY,fun j hj=>by omega,by simp⟩
 by_cases h:v=x
 ·simp[h]
 ·simp[h]
theorem Bq.visit (h:Bq n c f x par Q i) (hi:i<Q.length) {v:Nat} (hv:v<n) (hp:par v<0) (hr:f Q[i] v<c Q[i] v):Bq n c f x (fun w=>if w=v then(Q[i]:Int)else par w) (Q++[v]) i:=by
 have SD:v∉Q:=fun hm=>by have:=(h.iff v hv).2 hm;omega
 have SI:x≠v:=fun e=>SD (e▸h.mem)
 have yu:∀u∈Q,(Q++[v]).idxOf u=Q.idxOf u:=fun u hu=>by rw[List.idxOf_append,if_pos hu]
 have uB:(Q++[v]).idxOf v=Q.length:=by rw[List.idxOf_append,if_neg SD];simp
 refine⟨?_,fun w hw=>?_,by simp only[if_neg SI];exact h.root,by simp[h.mem],fun w hw=>?_,fun w hw fY=>?_,fun j hj hl w hw Hy=>?_,by simp;omega⟩
 ·refine List.nodup_append.2 ⟨h.nodup,by simp,fun a ha b hb=>?_⟩
  rw[List.mem_singleton.1 hb]
  rintro rfl;exact SD ha
 ·rcases List.mem_append.1 hw with hw|hw
  ·exact h.lt w hw
  ·rw[List.mem_singleton.1 hw];exact hv
 ·by_cases D8:w=v
  ·subst D8;simp
  ·rw[if_neg D8,h.iff w hw];simp[D8]
 ·by_cases D8:w=v
  ·subst D8
   refine⟨Q[i],by simp,by simp,?_,hr⟩
   rw[yu _ (List.getElem_mem hi),uB]
   exact List.idxOf_lt_length_of_mem (List.getElem_mem hi)
  ·have hwQ:w∈Q:=by
    rcases List.mem_append.1 hw with hw|hw
    ·exact hw
    ·exact absurd (List.mem_singleton.1 hw) D8
   obtain⟨u,h1,h2,h3,h4⟩:=h.up w hwQ fY
   exact⟨u,by simp[h1],by rw[if_neg D8];exact h2,by rw[yu u h1,yu w hwQ];exact h3,h4⟩
 ·have gm:j<Q.length:=by have:=h.ile;omega
  rw[List.getElem_append_left gm]at Hy
  exact List.mem_append_left _ (h.done j hj gm w hw Hy)
theorem Bq.next (h:Bq n c f x par Q i) (hi:i<Q.length) (dC:∀v,v<n->f Q[i] v<c Q[i] v->0<=par v):Bq n c f x par Q (i+1):=by
 refine⟨h.nodup,h.lt,h.root,h.mem,h.iff,h.up,fun j hj hl v hv hr=>?_,by omega⟩
 by_cases l6:j=i
 ·subst l6;exact(h.iff v hv).1 (dC v hv hr)
 ·exact h.done j (by omega) hl v hv hr
theorem Bq.cut (h:Bq n c f x par Q Q.length) {y:Nat} (hy:y<n) (hp:par y<0):∃S:Nat->Bool,S x=true/\S y=false/\∀u v,u<n->v<n->S u=true->S v=false->¬f u v<c u v:=by
 refine⟨fun v=>decide (v∈Q),by simp[h.mem],?_,fun u v hu hv h1 h2 hr=>?_⟩
 ·have:y∉Q:=fun hm=>by have:=(h.iff y hy).2 hm;omega
  simp[this]
 ·simp only[decide_eq_true_eq,decide_eq_false_iff_not]at h1 h2
  obtain⟨j,hj,rfl⟩:=List.getElem_of_mem h1
  exact h2 (h.done j hj hj v hv hr)
def tK (c f:Nat->Nat->Int) (Q:List Nat) (y k:Nat) (out:List Nat):Prop:=∃rest,out.reverse=k::rest/\(k::rest).getLast (by simp)=y/\qc f c (k::rest)/\(k::rest).Pairwise (fun a b=>Q.idxOf a<Q.idxOf b)/\∀v∈k::rest,v∈Q
theorem tK.start {y:Nat} (hy:y∈Q):tK c f Q y y [y]:=⟨[],rfl,rfl,trivial,by simp,by simpa using hy⟩
theorem tK.step {y k u:Nat} {out:List Nat} (h:tK c f Q y k out) (hu:u∈Q) (hi:Q.idxOf u<Q.idxOf k) (hr:f u k<c u k):tK c f Q y u (out++[u]):=by
 obtain⟨rest,h1,h2,h3,h4,h5⟩:=h
 refine⟨k::rest,by rw[List.reverse_append,h1];rfl,by rw[List.getLast_cons (by simp)];exact h2,⟨hr,h3⟩,?_,?_⟩
 ·refine List.pairwise_cons.2 ⟨fun b hb=>?_,h4⟩
  rcases List.mem_cons.1 hb with rfl|hb
  ·exact hi
  ·have:=(List.pairwise_cons.1 h4).1 b hb;omega
 ·intro v hv
  rcases List.mem_cons.1 hv with rfl|hv
  ·exact hu
  ·exact h5 v hv
theorem tK.len {y k:Nat} {out:List Nat} (h:tK c f Q y k out) (hq:∀v∈Q,v<n):out.length<=n:=by
 obtain⟨rest,h1,_,_,h4,h5⟩:=h
 rw[<-List.length_reverse,h1]
 refine nU n _ (h4.imp fun dy he=>?_) fun v hv=>hq v (h5 v hv)
 subst he;omega
structure Oz (n:Nat) (c f:Nat->Nat->Int) (x y:Nat) (p:List Nat):Prop where
 way:∃r,p=x::r/\(x::r).getLast (by simp)=y
 nodup:p.Nodup
 room:qc f c p
 lt:∀v∈p,v<n
theorem tK.way {y:Nat} {out:List Nat} (h:tK c f Q y x out) (hq:∀v∈Q,v<n):Oz n c f x y out.reverse:=by
 obtain⟨rest,h1,h2,h3,h4,h5⟩:=h
 rw[h1]
 exact⟨⟨rest,rfl,h2⟩,h4.imp fun dy he=>by subst he;omega,h3,fun v hv=>hq v (h5 v hv)⟩
end
end Go.Proofs.YtgoelphibofcmaaGreat.V

namespace Go.Proofs.YtgoelphibofcmaaGreat.V
open Go.RowKit
attribute [local irreducible] dI wpOps ib Call
attribute [local go_sem] aJ gu eW gR gQ cE upd cw K.av cY AV.cells AV.cell rowOf rowsOf part ld rowAt bB cr dY eG jq bP dq eT gP fx dE eK dn dm eu ew bU bp db bR de dc eI eL eJ da cm dp eH bQ aO di cI jo bE cU bV aY du aV ea AV.undef bG bJ eA eE ei ep cJ eR eV cG eO eM dh dj List.getD_cons_zero List.getD_cons_succ List.getD_nil List.all_cons List.all_nil Bool.and_true Bool.true_and Bool.and_self Bool.not_true Bool.not_false Option.map_some Option.map_none Option.bind_some Option.bind_none List.length_cons List.length_nil List.take_succ_cons List.take_zero List.take_nil List.drop_succ_cons List.drop_zero List.drop_nil List.head?_cons List.map_cons List.map_nil List.getElem?_cons_zero List.getElem?_cons_succ List.cons_append List.nil_append List.append_nil List.length_map List.set_cons_zero List.set_cons_succ Nat.reduceMul eq_self Int.toNat_natCast Int.natCast_nonneg and_self true_and and_true decide_true decide_false Bool.false_eq_true Nat.zero_add Nat.add_zero List.contains_cons List.contains_nil Bool.or_false Bool.false_or beq_self_eq_true Nat.reduceBEq ne_eq not_true_eq_false not_false_eq_true Id.mk.injEq false_and and_false Nat.reduceLT Int.reduceLE Int.reduceLT Int.reduceToNat Int.reduceNeg Int.reduceAdd Nat.le_refl List.length_append beq_true beq_false Bool.not_eq_eq_eq_not or_false false_or eh ao aq aK br bI cC bc bz aQ bt cX cj
def lz (l:List Nat) (i x:Nat):Nat:=if x<i∨l.length-i<=x then l.getD (l.length-1-x) 0 else l.getD x 0
theorem xO (l:List Nat):l.map eN=dr (fun x=>l.getD x 0) l.length:=by
 refine List.ext_getElem? fun i=>?_
 by_cases h:i<l.length
 ·rw[e9 h,List.getElem?_map,List.getElem?_eq_getElem h];simp[List.getD_eq_getElem?_getD,h]
 ·rw[List.getElem?_eq_none (by simp;omega),List.getElem?_eq_none (by rw[fQ];omega)]
theorem FO (l:List Nat):dr (lz l 0) l.length=l.map eN:=by
 rw[xO]
 exact gH fun x hx=>by unfold lz;rw[if_neg (by omega)]
theorem Ig (l:List Nat) {i:Nat} (h:l.length<=2*i+1) (hi:i<=l.length):dr (lz l i) l.length=l.reverse.map eN:=by
 rw[xO l.reverse,List.length_reverse]
 refine gH fun x hx=>?_
 have hr:l.reverse.getD x 0=l.getD (l.length-1-x) 0:=by
  rw[List.getD_eq_getElem?_getD,List.getElem?_reverse hx,List.getD_eq_getElem?_getD]
 rw[hr]
 unfold lz
 by_cases hc:x<i∨l.length-i<=x
 ·rw[if_pos hc]
 ·rw[if_neg hc]
  have:x=l.length-1-x:=by omega
  rw[<-this]
theorem FP (l:List Nat) (hp:0<l.length) (hl:l.length<=1048576) (o:Id) (σ:ar) (ho:σ.get o=some ⟨true,1,l.map eN⟩) (lO:o.aW<σ.next):
  Call Tryz.prog 273 [.own o 0 l.length] σ fun r σ'=>σ'.get o=some ⟨true,1,l.reverse.map eN⟩/\σ.next<=σ'.next/\∀i:Id,i.aW<σ.next->(i=o)=False->σ'.get i=σ.get i:=by
 refine gT ej rfl fun mm=>?_
 clear mm
 rw[<-FO]at ho
 have QZ:IntKind.i64.wrap ((l.length:Int)-1)=((l.length-1:Nat):Int):=by rw[aZ (by omega)];omega
 (try((repeat(revert hN;revert N;apply Pn.out));refine wk @QZ ?_;(repeat(refine Pn.mk ?_;intro N hN))))
 refine aH (fun m env st=>∃i:Nat,m=l.length-i/\2*i<=l.length+1/\i<=l.length/\env 2=.int .i64 (i:Int)/\env 3=.int .i64 ((l.length:Int)-1-i)/\st.get o=some ⟨true,1,dr (lz l i) l.length⟩/\σ.next<=st.next/\∀x:Id,x.aW<σ.next->(x=o)=False->st.get x=σ.get x) l.length ⟨0,rfl,by omega,by omega,by(simp only[go_sem, ↓reduceIte,Nat.reduceEqDiff,Nat.reduceAdd,Nat.reduceSub,Nat.reduceLeDiff,reduceCtorEq])<;>rfl,by(simp only[go_sem, ↓reduceIte,Nat.reduceEqDiff,Nat.reduceAdd,Nat.reduceSub,Nat.reduceLeDiff,reduceCtorEq,QZ]);congr 1;omega,ho,by(try dsimp only);omega,fun x _ _=>rfl⟩ ?_
 rintro m env_b st_b ⟨i,rfl,xg,lv,b2,b3,bg,bn,ec⟩ bkp
 have b0:=bkp 0 (by kernel_rfl)
 simp only[go_sem, ↓reduceIte,Nat.reduceEqDiff,Nat.reduceAdd,Nat.reduceSub,Nat.reduceLeDiff,reduceCtorEq]at b0
 clear bkp
 have tl:=fQ (lz l i) l.length
 have iU:=dv (i:=o) (n:=st_b.next) (by omega)
 by_cases hi:(i:Int)<(l.length:Int)-1-i
 ·have fA:i<l.length:=by omega
  obtain⟨j,hj⟩:∃j,j=l.length-1-i:=⟨_,rfl⟩
  have nq:j<l.length:=by omega
  have JP:(l.length:Int)-1-i=(j:Int):=by omega
  rw[JP]at b3 hi
  have g1:=e9 (f:=lz l i) fA
  have g2:=e9 (f:=lz l i) nq
  have e1:lz l i i=l.getD i 0:=by unfold lz;rw[if_neg (by omega)]
  have e2:lz l i j=l.getD j 0:=by unfold lz;rw[if_neg (by omega)]
  have Lg:(dr (lz l i) l.length).set i (eN (l.getD j 0))=dr (fun x=>if x=i then l.getD j 0 else lz l i x) l.length:=oM fA (if_pos rfl) fun x _ hx=>if_neg hx
  have Hz:(dr (fun x=>if x=i then l.getD j 0 else lz l i x) l.length).set j (eN (l.getD i 0))=dr (lz l (i+1)) l.length:=oM nq (by unfold lz;rw[if_pos (by omega)];congr 1;omega) fun x hx Ol=>by
   by_cases BF:x=i
   ·rw[if_pos BF];unfold lz;rw[if_pos (by omega)];congr 1;omega
   ·rw[if_neg BF];unfold lz
    by_cases hc:x<i∨l.length-i<=x
    ·rw[if_pos hc,if_pos (by omega)]
    ·rw[if_neg hc,if_neg (by omega)]
  have Q5:=fQ (fun x=>if x=i then l.getD j 0 else lz l i x) l.length
  have g3:=e9 (f:=fun x=>if x=i then l.getD j 0 else lz l i x) nq
  rw[e1]at g1
  rw[e2]at g2
  rw[if_neg (by omega),e2]at g3
  rw[eN]at g1 g2 g3 Lg Hz
  have hii:(i:Int)<(l.length:Int):=by omega
  have l6:(j:Int)<(l.length:Int):=by omega
  have rL:IntKind.i64.wrap ((i:Int)+1)=((i+1:Nat):Int):=ax (by omega)
  have s8:IntKind.i64.wrap ((j:Int)-1)=(l.length:Int)-1-((i+1:Nat):Int):=by rw[aZ (by omega)];omega
  (try((repeat(revert hN;revert N;apply Pn.out));refine wk (tw @b0 (tw @b2 (tw @b3 (tw @bg (tw @hi (tw @hii (tw @l6 (tw @g1 (tw @g2 (tw @g3 (tw @Lg (tw @Hz (tw @tl (tw @Q5 (tw @iU (tw @rL @s8)))))))))))))))) ?_;(repeat(refine Pn.mk ?_;intro N hN))))
  refine⟨_,?_,i+1,rfl,by omega,by omega,sd @rL,sd @s8,sd @Hz,by(try dsimp only);omega,fun x hx s9=>?_⟩
  ·omega
  ·have:=ec x hx s9
   simp only[go_sem, ↓reduceIte,Nat.reduceEqDiff,Nat.reduceAdd,Nat.reduceSub,Nat.reduceLeDiff,reduceCtorEq,s9,this]
 ·rw[Ig l (by omega) lv]at bg
  (try((repeat(revert hN;revert N;apply Pn.out));refine wk (tw @b0 (tw @b2 (tw @b3 (tw @bg @hi)))) ?_;(repeat(refine Pn.mk ?_;intro N hN))))
  exact gD (.inr rfl) (vs:=[]) (by simp only[eY,go_sem, ↓reduceIte,Nat.reduceEqDiff,Nat.reduceAdd,Nat.reduceSub,Nat.reduceLeDiff,reduceCtorEq]) ⟨bg,by(try dsimp only);omega,ec⟩
end Go.Proofs.YtgoelphibofcmaaGreat.V

namespace Go.Proofs.YtgoelphibofcmaaGreat.V
open Go.RowKit
attribute [local irreducible] dI wpOps ib Call
attribute [local go_sem] aJ gu eW gR gQ cE upd cw K.av cY AV.cells AV.cell rowOf rowsOf part ld rowAt bB cr dY eG jq bP dq eT gP fx dE eK dn dm eu ew bU bp db bR de dc eI eL eJ da cm dp eH bQ aO di cI jo bE cU bV aY du aV ea AV.undef bG bJ eA eE ei ep cJ eR eV cG eO eM dh dj List.getD_cons_zero List.getD_cons_succ List.getD_nil List.all_cons List.all_nil Bool.and_true Bool.true_and Bool.and_self Bool.not_true Bool.not_false Option.map_some Option.map_none Option.bind_some Option.bind_none List.length_cons List.length_nil List.take_succ_cons List.take_zero List.take_nil List.drop_succ_cons List.drop_zero List.drop_nil List.head?_cons List.map_cons List.map_nil List.getElem?_cons_zero List.getElem?_cons_succ List.cons_append List.nil_append List.append_nil List.length_map List.set_cons_zero List.set_cons_succ Nat.reduceMul eq_self Int.toNat_natCast Int.natCast_nonneg and_self true_and and_true decide_true decide_false Bool.false_eq_true Nat.zero_add Nat.add_zero List.contains_cons List.contains_nil Bool.or_false Bool.false_or beq_self_eq_true Nat.reduceBEq ne_eq not_true_eq_false not_false_eq_true Id.mk.injEq false_and and_false Nat.reduceLT Int.reduceLE Int.reduceLT Int.reduceToNat Int.reduceNeg Int.reduceAdd Nat.le_refl List.length_append beq_true beq_false Bool.not_eq_eq_eq_not or_false false_or eh ao aq aK br bI cC bc bz aQ bt cX cj
theorem P4 (cnt:Nat) (zH:1<=cnt) (hn:cnt<=1048576) (c f:Nat->Nat->Int) (x y:Nat) (hx:x<cnt) (hy:y<cnt):
  lF Tryz.prog 266 [.bK (k7 cnt c f),.int .i64 x,.int .i64 y] fun r=>(r=.cu/\∃S:Nat->Bool,S x=true/\S y=false/\∀u v,u<cnt->v<cnt->S u=true->S v=false->¬f u v<c u v)∨∃p:List Nat,r=.sl (p.map eN)/\Oz cnt c f x y p:=by
 refine lF.body ej rfl fun hl n0=>?_
 clear hl
 have lM:=vL c cnt
 have ju:(0:Int)<=(cnt:Int):=by omega
 have BF:(x:Int)<(cnt:Int):=by omega
 have Q1:(y:Int)<(cnt:Int):=by omega
 (try((repeat(revert hN;revert N;apply Pn.out));refine wk (tw @k7.eq_1 @lM) ?_;(repeat(refine Pn.mk ?_;intro N hN))))
 refine .inr (aU _ _ _ _ _ (fun r σ1 hq=>?_) (Ic cnt zH hn (-1) ⟨266002000,n0+1+1⟩ _ (sd @Nat.zero_add) (by(try dsimp only);omega)))
 obtain⟨o,rfl,ho,JS,JT,jl⟩:=hq
 (try dsimp only at ho JS JT jl)
 refine hN _ _ ?_
 clear hN N
 have iU:=dv JT
 have pc:(cnt:Int)<=1048576:=by omega
 have O0:pB<pB+cnt:=by omega
 have gj:List.replicate cnt [AV.int .i64 (-1)]=dD (fun _=>-1) cnt:=by
  refine List.ext_getElem? fun i=>?_
  by_cases h:i<cnt
  ·rw[dz h,List.getElem?_replicate,if_pos h];rfl
  ·rw[List.getElem?_eq_none (by simp;omega),List.getElem?_eq_none (by rw[cZ];omega)]
 rw[gj]at ho
 have Ax:(dD (fun _=>-1) cnt).set x (bq (x:Int))=dD (fun v=>if v=x then(x:Int)else -1) cnt:=kK hx (if_pos rfl) fun v _ hv=>if_neg hv
 have hg0:=dz (f:=fun _=>-1) hx
 have tl0:=cZ (fun _=>-1) cnt
 rw[bq]at Ax hg0
 (try((repeat(revert hN;revert N;apply Pn.out));refine wk (tw @k7.eq_1 (tw @lM (tw @ju (tw @pc @iU)))) ?_;(repeat(refine Pn.mk ?_;intro N hN))))
 refine IL ?_
 simp only[go_sem, ↓reduceIte,Nat.reduceEqDiff,Nat.reduceAdd,Nat.reduceSub,Nat.reduceLeDiff,reduceCtorEq,O0]
 refine hN _ _ ?_
 clear hN N
 (try((repeat(revert hN;revert N;apply Pn.out));refine wk (tw @ho (tw @iU (tw @Ax (tw @hg0 (tw @tl0 @BF))))) ?_;(repeat(refine Pn.mk ?_;intro N hN))))
 obtain⟨C,hC⟩:∃C:Id,C=⟨266003001,σ1.next+1⟩:=⟨_,rfl⟩
 have Po:=cQ (a:=o) (b:=C) (by rw[hC];(try dsimp only);omega)
 have hCv:C.aW=σ1.next+1:=by rw[hC]
 refine aH (fun m env st=>∃(par:Nat->Int) (Q:List Nat) (i:Nat),m=cnt-i/\Bq cnt c f x par Q i/\st.get o=some ⟨true,1,dD par cnt⟩/\st.get C=some ⟨true,pB+cnt,(Q.drop i).map eN⟩/\σ1.next+1<st.next) cnt ⟨_,[x],0,rfl,Bq.start hx,sd @iU,by rw[hC];simp only[go_sem, ↓reduceIte,Nat.reduceEqDiff,Nat.reduceAdd,Nat.reduceSub,Nat.reduceLeDiff,reduceCtorEq,iU];rfl,by(try dsimp only);omega⟩ ?_
 rintro m env_b st_b ⟨par,Q,i,rfl,hB,bgo,bgC,bn⟩ bkp
 have b0:=bkp 0 (by kernel_rfl)
 have b1:=bkp 1 (by kernel_rfl)
 have b2:=bkp 2 (by kernel_rfl)
 have b7:=bkp 7 (by kernel_rfl)
 have b8:=bkp 8 (by kernel_rfl)
 have b9:=bkp 9 (by kernel_rfl)
 rw[<-hC]at b9
 simp only[go_sem, ↓reduceIte,Nat.reduceEqDiff,Nat.reduceAdd,Nat.reduceSub,Nat.reduceLeDiff,reduceCtorEq]at b0 b1 b2 b7 b8 b9
 clear bkp
 have hQn:=hB.len
 have lv:=hB.ile
 have QB:((Q.drop i).map eN).length=Q.length-i:=by simp
 by_cases hi:i<Q.length
 ·have kW:(0:Int)<((Q.length-i:Nat):Int):=by omega
  have qW:Q.drop i=Q[i]::Q.drop (i+1):=List.drop_eq_getElem_cons hi
  obtain⟨u,hu⟩:∃u,u=Q[i]:=⟨_,rfl⟩
  have hun:u<cnt:=by rw[hu];exact hB.lt _ (List.getElem_mem hi)
  rw[<-hu]at qW
  (try((repeat(revert hN;revert N;apply Pn.out));refine wk (tw @b0 (tw @b1 (tw @b2 (tw @b7 (tw @b8 (tw @b9 (tw @bgC (tw @QB @kW)))))))) ?_;(repeat(refine Pn.mk ?_;intro N hN))))
  refine IL ?_
  rw[qW,List.map_cons,show eN u=[.int .i64 (u:Int)]from rfl]at bgC
  simp only[go_sem, ↓reduceIte,Nat.reduceEqDiff,Nat.reduceAdd,Nat.reduceSub,Nat.reduceLeDiff,reduceCtorEq,b9,bgC]
  refine hN _ _ ?_
  clear hN N
  (try((repeat(revert hN;revert N;apply Pn.out));refine wk @b7 ?_;(repeat(refine Pn.mk ?_;intro N hN))))
  refine aH (fun m env st=>∃(v:Nat) (par':Nat->Int) (Q':List Nat),m=cnt-v/\v<=cnt/\env 36=.int .i64 (v:Int)/\Bq cnt c f x par' Q' i/\(∃h:i<Q'.length,Q'[i]=u)/\st.get o=some ⟨true,1,dD par' cnt⟩/\st.get C=some ⟨true,pB+cnt,(Q'.drop (i+1)).map eN⟩/\σ1.next+1<st.next/\∀w,w<v->f u w<c u w->0<=par' w) cnt ⟨0,par,Q,rfl,Nat.zero_le _,by(simp only[go_sem, ↓reduceIte,Nat.reduceEqDiff,Nat.reduceAdd,Nat.reduceSub,Nat.reduceLeDiff,reduceCtorEq])<;>rfl,hB,⟨hi,hu.symm⟩,sd (tw @Po @bgo),sd @Po,by(try dsimp only);omega,fun w hw=>absurd hw (Nat.not_lt_zero w)⟩ ?_
  rintro m env_c st_c ⟨v,par',Q',rfl,hvn,c36,dx,⟨p9,D7⟩,w8,cgC,cn,dC⟩ ckp
  have c0:=ckp 0 (by kernel_rfl)
  have c1:=ckp 1 (by kernel_rfl)
  have c2:=ckp 2 (by kernel_rfl)
  have c7:=ckp 7 (by kernel_rfl)
  have c8:=ckp 8 (by kernel_rfl)
  have c9:=ckp 9 (by kernel_rfl)
  have jj:=ckp 10 (by kernel_rfl)
  have LU:=ckp 35 (by kernel_rfl)
  simp only[go_sem, ↓reduceIte,Nat.reduceEqDiff,Nat.reduceAdd,Nat.reduceSub,Nat.reduceLeDiff,reduceCtorEq,b0,b1,b2,b7,b8,b9]at c0 c1 c2 c7 c8 c9 jj LU
  clear ckp
  have tl:=cZ par' cnt
  by_cases hv:(v:Int)<(cnt:Int)
  ·have CB:v<cnt:=by omega
   have MA:=dz (f:=par') CB
   have jl:=L7 cnt c f u v hun CB
   have hw:IntKind.i64.wrap ((v:Int)+1)=((v+1:Nat):Int):=ax (by omega)
   rw[bq]at MA
   rw[k7]at jl
   by_cases jP:par' v<0
   ·by_cases hr:f u v<c u v
    ·rw[decide_eq_true hr]at jl
     have ev:(dD par' cnt).set v (bq (u:Int))=dD (fun w=>if w=v then(u:Int)else par' w) cnt:=kK CB (if_pos rfl) fun w _ hw=>if_neg hw
     rw[bq]at ev
     have rE:=dx.visit p9 CB jP (by rw[D7];exact hr)
     rw[D7]at rE
     have hQ2:=rE.len
     rw[List.length_append]at hQ2
     simp only[List.length_singleton]at hQ2
     have fU:pB+(Q'.drop (i+1)).length<pB+cnt:=by rw[List.length_drop];omega
     (repeat(first|((repeat(revert hN;revert N;apply Pn.out));refine wk (tw @k7.eq_1 (tw @c0 (tw @c7 (tw @c8 (tw @c9 (tw @jj (tw @c36 (tw @LU (tw @hv (tw @w8 (tw @MA (tw @tl (tw @jP @ev))))))))))))) ?_;(repeat(refine Pn.mk ?_;intro N hN)))|((try apply Or.inl);refine⟨_,aj.x (jl) (sd (tw @k7.eq_1 (tw @c0 (tw @c7 (tw @c8 (tw @c9 (tw @jj (tw @c36 (tw @LU (tw @hv (tw @w8 (tw @MA (tw @tl (tw @jP @ev)))))))))))))),?_⟩;refine hN _ _ ?_;clear hN N)))
     refine IL ?_
     have hq:(Q'.drop (i+1)).map eN++[[.int .i64 (v:Int)]]=((Q'++[v]).drop (i+1)).map eN:=by rw[List.drop_append_of_le_length (by omega),List.map_append];rfl
     simp only[go_sem, ↓reduceIte,Nat.reduceEqDiff,Nat.reduceAdd,Nat.reduceSub,Nat.reduceLeDiff,reduceCtorEq,c9,cgC,fU,Po,hq]
     refine hN _ _ ?_
     clear hN N
     (try((repeat(revert hN;revert N;apply Pn.out));refine wk (tw @c36 @hw) ?_;(repeat(refine Pn.mk ?_;intro N hN))))
     refine⟨_,?_,v+1,_,_,rfl,CB,sd @hw,rE,⟨by rw[List.length_append];omega,by rw[List.getElem_append_left p9];exact D7⟩,sd @Po,sd @Po,by(try dsimp only);omega,fun w hw Hy=>?_⟩
     ·omega
     ·by_cases D8:w=v
      ·rw[if_pos D8];omega
      ·rw[if_neg D8];exact dC w (by omega) Hy
    ·rw[decide_eq_false hr]at jl
     (repeat(first|((repeat(revert hN;revert N;apply Pn.out));refine wk (tw @k7.eq_1 (tw @c0 (tw @c7 (tw @c8 (tw @c9 (tw @jj (tw @c36 (tw @LU (tw @hv (tw @w8 (tw @MA (tw @tl (tw @jP @hw))))))))))))) ?_;(repeat(refine Pn.mk ?_;intro N hN)))|((try apply Or.inl);refine⟨_,aj.x (jl) (sd (tw @k7.eq_1 (tw @c0 (tw @c7 (tw @c8 (tw @c9 (tw @jj (tw @c36 (tw @LU (tw @hv (tw @w8 (tw @MA (tw @tl (tw @jP @hw)))))))))))))),?_⟩;refine hN _ _ ?_;clear hN N)))
     refine⟨_,?_,v+1,par',Q',rfl,CB,sd @hw,dx,⟨p9,D7⟩,sd @w8,sd @cgC,by(try dsimp only);omega,fun w hw Hy=>?_⟩
     ·omega
     ·by_cases D8:w=v
      ·subst D8;exact absurd Hy hr
      ·exact dC w (by omega) Hy
   ·(try((repeat(revert hN;revert N;apply Pn.out));refine wk (tw @k7.eq_1 (tw @c0 (tw @c7 (tw @c8 (tw @c9 (tw @jj (tw @c36 (tw @LU (tw @hv (tw @w8 (tw @MA (tw @tl (tw @jP @hw))))))))))))) ?_;(repeat(refine Pn.mk ?_;intro N hN))))
    refine⟨_,?_,v+1,par',Q',rfl,CB,sd @hw,dx,⟨p9,D7⟩,sd @w8,sd @cgC,by(try dsimp only);omega,fun w hw Hy=>?_⟩
    ·omega
    ·by_cases D8:w=v
     ·subst D8;omega
     ·exact dC w (by omega) Hy
  ·have hvc:v=cnt:=by omega
   subst hvc
   (try((repeat(revert hN;revert N;apply Pn.out));refine wk (tw @c36 (tw @LU @hv)) ?_;(repeat(refine Pn.mk ?_;intro N hN))))
   refine⟨_,?_,par',Q',i+1,rfl,dx.next p9 fun w hw hr=>dC w hw (by rw[<-D7];exact hr),sd @w8,sd @cgC,by(try dsimp only);omega⟩
   omega
 ·have hiQ:i=Q.length:=by omega
  subst hiQ
  have kW:¬(0:Int)<((Q.length-Q.length:Nat):Int):=by omega
  have R8:=dz (f:=par) hy
  have tl:=cZ par cnt
  rw[bq]at R8
  by_cases jP:par y<0
  ·(try((repeat(revert hN;revert N;apply Pn.out));refine wk (tw @b0 (tw @b1 (tw @b2 (tw @b7 (tw @b8 (tw @b9 (tw @bgC (tw @QB (tw @kW (tw @bgo (tw @R8 (tw @tl (tw @Q1 @jP))))))))))))) ?_;(repeat(refine Pn.mk ?_;intro N hN))))
   exact⟨[.cu],sd @Nat.zero_add,.cu,lN _ _,.inl ⟨rfl,hB.cut hy jP⟩⟩
  ·(try((repeat(revert hN;revert N;apply Pn.out));refine wk (tw @b0 (tw @b1 (tw @b2 (tw @b7 (tw @b8 (tw @b9 (tw @bgC (tw @QB (tw @kW (tw @bgo (tw @R8 (tw @tl (tw @Q1 @jP))))))))))))) ?_;(repeat(refine Pn.mk ?_;intro N hN))))
   refine aH (fun m env st=>∃(k:Nat) (out:List Nat) (p:Id),m=Q.idxOf k/\env 13=.int .i64 (k:Int)/\env 12=.own p 0 out.length/\st.get p=some ⟨true,1,out.map eN⟩/\p.aW<st.next/\st_b.next<=p.aW/\k∈Q/\tK c f Q y k out/\st.get o=some ⟨true,1,dD par cnt⟩) (Q.idxOf y) ⟨y,[y],⟨266017001,st_b.next+1+1⟩,rfl,by(simp only[go_sem, ↓reduceIte,Nat.reduceEqDiff,Nat.reduceAdd,Nat.reduceSub,Nat.reduceLeDiff,reduceCtorEq]),by(simp only[go_sem, ↓reduceIte,Nat.reduceEqDiff,Nat.reduceAdd,Nat.reduceSub,Nat.reduceLeDiff,reduceCtorEq])<;>rfl,by(simp only[go_sem, ↓reduceIte,Nat.reduceEqDiff,Nat.reduceAdd,Nat.reduceSub,Nat.reduceLeDiff,reduceCtorEq])<;>rfl,by(try dsimp only);omega,by(try dsimp only);omega,(hB.iff y hy).1 (by omega),tK.start ((hB.iff y hy).1 (by omega)),by(have Oi:=dv (i:=o) (n:=st_b.next) (by omega));simp only[go_sem, ↓reduceIte,Nat.reduceEqDiff,Nat.reduceAdd,Nat.reduceSub,Nat.reduceLeDiff,reduceCtorEq,Oi,bgo]⟩ ?_
   rintro m env_d st_d ⟨k,out,p,rfl,d13,d12,dgp,dpn,dpo,hkQ,tq,dgo⟩ dkp
   have d1:=dkp 1 (by kernel_rfl)
   have d8:=dkp 8 (by kernel_rfl)
   simp only[go_sem, ↓reduceIte,Nat.reduceEqDiff,Nat.reduceAdd,Nat.reduceSub,Nat.reduceLeDiff,reduceCtorEq,b1,b8]at d1 d8
   clear dkp
   have q9:=dv dpn
   have AB:=dv (i:=o) (n:=st_d.next) (by omega)
   have dK:=cQ (a:=o) (b:=p) (by omega)
   have hol:=tq.len hB.lt
   have eZ:=hB.lt k hkQ
   have pI:(out.map eN).length=out.length:=by simp
   by_cases QJ:k=x
   ·have hd:decide ((k:Int)=(x:Int))=true:=decide_eq_true (by rw[QJ])
    have Sr:0<out.length:=by
     obtain⟨rest,h1,_⟩:=tq
     rw[<-List.length_reverse,h1];simp
    (try((repeat(revert hN;revert N;apply Pn.out));refine wk (tw @d1 (tw @d8 (tw @d12 (tw @d13 (tw @hd @Bool.not_true))))) ?_;(repeat(refine Pn.mk ?_;intro N hN))))
    refine .inr (aU _ _ _ _ _ (fun r σ2 hq=>?_) (FP out Sr (by omega) p _ dgp (by(try dsimp only);omega)))
    obtain⟨R5,lx,uw⟩:=hq
    refine hN _ _ ?_
    clear hN N
    (try((repeat(revert hN;revert N;apply Pn.out));refine wk @d12 ?_;(repeat(refine Pn.mk ?_;intro N hN))))
    refine⟨[.own p 0 out.length],sd @d12,.sl (out.reverse.map eN),?_,.inr ⟨out.reverse,rfl,by subst QJ;exact tq.way hB.lt⟩⟩
    exact gZ (sz:=1) R5 (by simp) fun a=>L8 _ 4 a
   ·have hd:decide ((k:Int)=(x:Int))=false:=decide_eq_false fun h=>QJ (by omega)
    obtain⟨u,huQ,hpu,yu,hr⟩:=hB.up k hkQ QJ
    have eo:=dz (f:=par) eZ
    rw[bq,hpu]at eo
    have hki:(k:Int)<(cnt:Int):=by omega
    have e1:out.length+1<=16777216:=by omega
    (try((repeat(revert hN;revert N;apply Pn.out));refine wk (tw @d1 (tw @d8 (tw @d12 (tw @d13 (tw @hd (tw @Bool.not_false (tw @dgo (tw @dgp (tw @eo (tw @tl (tw @hki (tw @q9 (tw @AB (tw @dK (tw @pI @e1))))))))))))))) ?_;(repeat(refine Pn.mk ?_;intro N hN))))
    refine⟨_,yu,u,out++[u],⟨266021003,st_d.next+1+1⟩,rfl,sd @Nat.zero_add,by rw[List.length_append];simp only[go_sem, ↓reduceIte,Nat.reduceEqDiff,Nat.reduceAdd,Nat.reduceSub,Nat.reduceLeDiff,reduceCtorEq,List.length_cons,List.length_nil],by rw[List.map_append,List.map_cons,List.map_nil];simp only[go_sem, ↓reduceIte,Nat.reduceEqDiff,Nat.reduceAdd,Nat.reduceSub,Nat.reduceLeDiff,reduceCtorEq,eN],by(try dsimp only);omega,by(try dsimp only);omega,huQ,tq.step huQ yu hr,sd (tw @AB (tw @dK @dgo))⟩
end Go.Proofs.YtgoelphibofcmaaGreat.V

namespace Go.Proofs.YtgoelphibofcmaaGreat.V
open Go.RowKit
attribute [local irreducible] dI wpOps ib Call
attribute [local go_sem] aJ gu eW gR gQ cE upd cw K.av cY AV.cells AV.cell rowOf rowsOf part ld rowAt bB cr dY eG jq bP dq eT gP fx dE eK dn dm eu ew bU bp db bR de dc eI eL eJ da cm dp eH bQ aO di cI jo bE cU bV aY du aV ea AV.undef bG bJ eA eE ei ep cJ eR eV cG eO eM dh dj List.getD_cons_zero List.getD_cons_succ List.getD_nil List.all_cons List.all_nil Bool.and_true Bool.true_and Bool.and_self Bool.not_true Bool.not_false Option.map_some Option.map_none Option.bind_some Option.bind_none List.length_cons List.length_nil List.take_succ_cons List.take_zero List.take_nil List.drop_succ_cons List.drop_zero List.drop_nil List.head?_cons List.map_cons List.map_nil List.getElem?_cons_zero List.getElem?_cons_succ List.cons_append List.nil_append List.append_nil List.length_map List.set_cons_zero List.set_cons_succ Nat.reduceMul eq_self Int.toNat_natCast Int.natCast_nonneg and_self true_and and_true decide_true decide_false Bool.false_eq_true Nat.zero_add Nat.add_zero List.contains_cons List.contains_nil Bool.or_false Bool.false_or beq_self_eq_true Nat.reduceBEq ne_eq not_true_eq_false not_false_eq_true Id.mk.injEq false_and and_false Nat.reduceLT Int.reduceLE Int.reduceLT Int.reduceToNat Int.reduceNeg Int.reduceAdd Nat.le_refl List.length_append beq_true beq_false Bool.not_eq_eq_eq_not or_false false_or eh ao aq aK br bI cC bc bz aQ bt cX cj
theorem zP (b:Nat):∀(l:List Nat) (a:Nat) (f:Nat->Nat->Int),lJ f ((a::l)++[b])=j5 (lJ f (a::l)) ((a::l).getLast (by simp)) b
 |[],a,f=>rfl
 |c::l,a,f=>by
  rw[List.cons_append,List.cons_append,lJ,<-List.cons_append,zP b l c (j5 f a c),lJ,List.getLast_cons_cons]
theorem EH {p:List Nat} {f:Nat->Nat->Int} {i:Nat} (h1:1<=i) (hi:i<p.length):lJ f (p.take (i+1))=j5 (lJ f (p.take i)) (p[i-1]'(by omega)) p[i]:=by
 rw[List.take_succ_eq_append_getElem hi]
 have fY:p.take i≠[]:=by
  intro h
  have:(p.take i).length=0:=by rw[h];rfl
  rw[List.length_take]at this;omega
 obtain⟨a,l,I3⟩:∃a l,p.take i=a::l:=by
  cases h:p.take i with
  |nil=>exact absurd h fY
  |cons a l=>exact⟨a,l,rfl⟩
 have uB:(p.take i).getLast fY=p[i-1]'(by omega):=by
  rw[List.getLast_eq_getElem,List.getElem_take]
  congr 1
  rw[List.length_take];omega
 simp only[I3]at uB ⊢
 rw[zP,uB]
theorem FL (f:Nat->Nat->Int) (a b u v:Nat):j5 f a b u v<=f u v+1/\f u v-1<=j5 f a b u v:=by
 unfold j5 bump
 split<;>split<;>constructor<;>omega
theorem lK:∀(p:List Nat) (f:Nat->Nat->Int) (u v:Nat),lJ f p u v<=f u v+p.length/\f u v-p.length<=lJ f p u v
 |[],f,u,v=>by simp[lJ]
 |[_],f,u,v=>by simp[lJ];omega
 |a::b::r,f,u,v=>by
  rw[lJ]
  have h1:=lK (b::r) (j5 f a b) u v
  have h2:=FL f a b u v
  simp only[List.length_cons]at h1 ⊢
  omega
theorem mY.push {g g':Rows} {X o1 o2:Id} {R1 R2:Nat->Id} {n nb:Nat} {c f:Nat->Nat->Int} (I:EC X o1 o2 R1 R2 n nb) (h:mY g X o1 o2 R1 R2 n c f) {a b:Nat} (ha:a<n) (hb:b<n) (sE:a≠b) (hA:g' (R2 a)=some ⟨true,1,dD (bump f a b 1 a) n⟩) (hB:g' (R2 b)=some ⟨true,1,dD (bump (bump f a b 1) b a (-1) b) n⟩) (hf:∀i:Id,i.aW<nb->(i=R2 a)=False->(i=R2 b)=False->g' i=g i):mY g' X o1 o2 R1 R2 n c (j5 f a b):=by
 have ne:∀{i:Id} {s:Nat},i.site=s->(s==245005006)=false->∀a,a<n->(i=R2 a)=False:=fun {i s} hi hs a ha=>by
  simp only[eq_iff_iff,iff_false]
  rintro rfl
  rw[I.Lt a ha]at hi
  subst hi
  simp at hs
 refine⟨(hf _ I.vx (ne I.sx (by decide) _ ha) (ne I.sx (by decide) _ hb)).trans h.x,(hf _ I.v1 (ne I.s1 (by decide) _ ha) (ne I.s1 (by decide) _ hb)).trans h.t1,(hf _ I.v2 (ne I.s2 (by decide) _ ha) (ne I.s2 (by decide) _ hb)).trans h.t2,fun i hi=>(hf _ (I.Q6 i hi) (ne (I.Q4 i hi) (by decide) _ ha) (ne (I.Q4 i hi) (by decide) _ hb)).trans (h.r1 i hi),fun i hi=>?_⟩
 by_cases I7:i=b
 ·subst I7;exact hB
 ·by_cases I6:i=a
  ·subst I6
   rw[hA,j5,jM I7]
  ·rw[j5,jM I7,jM I6,hf _ (I.Ov i hi) (by simp only[eq_iff_iff,iff_false];exact fun he=>I6 (I.i2 i _ hi ha he)) (by simp only[eq_iff_iff,iff_false];exact fun he=>I7 (I.i2 i _ hi hb he))]
   exact h.r2 i hi
theorem Nj (cnt:Nat) (zH:1<=cnt) (hn:cnt<=1048576) (c:Nat->Nat->Int) (hc:∀u v,u<cnt->v<cnt->0<=c u v/\c u v<=16777216) (x y:Nat) (hx:x<cnt) (hy:y<cnt) (Lm:x≠y) (t:Int) (ht:t<=1099511627776)
  (X o1 o2:Id) (R1 R2:Nat->Id) (nb:Nat) (I:EC X o1 o2 R1 R2 cnt nb) (σ:ar) (hM:mY σ.get X o1 o2 R1 R2 cnt c (fun _ _=>0)) (QP:nb<=σ.next):
  Call Tryz.prog 246 [.ptr X 0 0,.int .i64 x,.int .i64 y,.int .i64 t] σ fun r σ'=>∃val:Int,r=.int .i64 val/\(val<t↔∃S:Nat->Bool,S x=true/\S y=false/\lL cnt S c<t)/\σ.next<=σ'.next:=by
 refine gT ej rfl fun hl=>?_
 clear hl
 have hxS:(fun v=>decide (v=x)) x=true:=by simp
 have hyS:(fun v=>decide (v=x)) y=false:=by simp;exact fun h=>Lm h.symm
 obtain⟨top,SB⟩:∃top,top=lL cnt (fun v=>decide (v=x)) c:=⟨_,rfl⟩
 (try((repeat(revert hN;revert N;apply Pn.out));refine wk @Nat.zero_add ?_;(repeat(refine Pn.mk ?_;intro N hN))))
 refine aH (fun m env st=>∃(k:Nat) (f:Nat->Nat->Int),m=(top-k).toNat/\env 9=.int .i64 (k:Int)/\k5 cnt c f x y k/\mY st.get X o1 o2 R1 R2 cnt c f/\σ.next<=st.next/\(0<k->(k:Int)<=t)/\∀u v,-((k:Int)*(cnt:Int))<=f u v) (top-0).toNat ⟨0,fun _ _=>0,rfl,by(simp only[go_sem, ↓reduceIte,Nat.reduceEqDiff,Nat.reduceAdd,Nat.reduceSub,Nat.reduceLeDiff,reduceCtorEq])<;>rfl,k5.zero fun u v hu hv=>(hc u v hu hv).1,hM,by(try dsimp only);omega,fun h=>absurd h (Nat.lt_irrefl 0),fun u v=>by simp⟩ ?_
 rintro m env_b st_b ⟨k,f,rfl,b9,hF,bM,bn,bk,blo⟩ bkp
 have b0:=bkp 0 (by kernel_rfl)
 have b1:=bkp 1 (by kernel_rfl)
 have b2:=bkp 2 (by kernel_rfl)
 have b3:=bkp 3 (by kernel_rfl)
 simp only[go_sem, ↓reduceIte,Nat.reduceEqDiff,Nat.reduceAdd,Nat.reduceSub,Nat.reduceLeDiff,reduceCtorEq]at b0 b1 b2 b3
 clear bkp
 have hz:cH (eh st_b.get) 6 [.ptr X 0 0,.int .i64 (x:Int),.int .i64 (y:Int)]=some [.bK (k7 cnt c f),.int .i64 x,.int .i64 y]:=by simp only[ao,aq,bM.fz,aK,Option.map_some]
 (try((repeat(revert hN;revert N;apply Pn.out));refine wk (tw @b0 (tw @b1 (tw @b2 (tw @b3 @b9)))) ?_;(repeat(refine Pn.mk ?_;intro N hN))))
 refine .inr (aU _ _ _ _ _ (fun r σ1 hq=>?_) ((P4 cnt zH hn c f x y hx hy).x mixed hz))
 obtain⟨MO,rfl⟩:=hq
 refine hN _ _ ?_
 clear hN N
 rcases MO with⟨rfl,S,Ms,Mt,Qu⟩|⟨p,rfl,hW⟩
 ·(try((repeat(revert hN;revert N;apply Pn.out));refine wk (tw @b0 (tw @b1 (tw @b2 (tw @b3 (tw @b9 (tw @Bool.not_true @Bool.not_false)))))) ?_;(repeat(refine Pn.mk ?_;intro N hN))))
  refine gD (.inl rfl) (vs:=[.int .i64 (k:Int)]) (sd @Nat.zero_add) ⟨(k:Int),rfl,⟨fun h=>⟨S,Ms,Mt,by rw[<-hF.full Ms Mt Qu];exact h⟩,fun⟨S',h1,h2,h3⟩=>by have:=hF.bound h1 h2;omega⟩,by(try dsimp only);omega⟩
 ·obtain⟨⟨rs,rfl,uB⟩,oy,fU,hplt⟩:=hW
  by_cases JQ:t<=(k:Int)
  ·(try((repeat(revert hN;revert N;apply Pn.out));refine wk (tw @b0 (tw @b1 (tw @b2 (tw @b3 (tw @b9 (tw @JQ (tw @Bool.not_true @Bool.not_false))))))) ?_;(repeat(refine Pn.mk ?_;intro N hN))))
   refine gD (.inl rfl) (vs:=[.int .i64 (k:Int)]) (sd @Nat.zero_add) ⟨(k:Int),rfl,⟨fun h=>by omega,fun⟨S',h1,h2,h3⟩=>by have:=hF.bound h1 h2;omega⟩,by(try dsimp only);omega⟩
  ·(try((repeat(revert hN;revert N;apply Pn.out));refine wk (tw @b0 (tw @b1 (tw @b2 (tw @b3 (tw @b9 (tw @JQ (tw @Bool.not_true @Bool.not_false))))))) ?_;(repeat(refine Pn.mk ?_;intro N hN))))
   have l7:=nU cnt _ oy hplt
   have hkc:(k:Int)*(cnt:Int)<=1099511627776*1048576:=Int.mul_le_mul (by omega) (by omega) (by omega) (by omega)
   have hfb:=hF.bound (S:=fun v=>decide (v=x)) hxS hyS
   have hnear:=lK
   obtain⟨p,hp⟩:∃p,p=x::rs:=⟨_,rfl⟩
   have hmp:eN x::List.map eN rs=p.map eN:=by rw[hp];rfl
   rw[hmp]
   have ML:1<=p.length:=by rw[hp];simp
   have Rz:=hF.aug uB oy fU hplt
   rw[<-hp]at Rz oy fU hplt l7
   have MU:p.take 1=[x]:=by rw[hp];rfl
   clear hmp uB
   refine aH (fun m env st=>∃i:Nat,m=p.length-i/\1<=i/\i<=p.length/\env 11=.int .i64 (i:Int)/\mY st.get X o1 o2 R1 R2 cnt c (lJ f (p.take i))/\st_b.next<=st.next) (p.length-1) ⟨1,rfl,Nat.le_refl _,ML,by(simp only[go_sem, ↓reduceIte,Nat.reduceEqDiff,Nat.reduceAdd,Nat.reduceSub,Nat.reduceLeDiff,reduceCtorEq])<;>rfl,by rw[MU];exact bM,by(try dsimp only);omega⟩ ?_
   rintro m env_c st_c ⟨i,rfl,JN,lv,nj,cM,cn⟩ ckp
   have c0:=ckp 0 (by kernel_rfl)
   have c1:=ckp 1 (by kernel_rfl)
   have c2:=ckp 2 (by kernel_rfl)
   have c3:=ckp 3 (by kernel_rfl)
   have c9:=ckp 9 (by kernel_rfl)
   have jj:=ckp 10 (by kernel_rfl)
   simp only[go_sem, ↓reduceIte,Nat.reduceEqDiff,Nat.reduceAdd,Nat.reduceSub,Nat.reduceLeDiff,reduceCtorEq,b0,b1,b2,b3,b9]at c0 c1 c2 c3 c9 jj
   clear ckp
   have pI:(p.map eN).length=p.length:=by simp
   by_cases hi:(i:Int)<(p.length:Int)
   ·have fA:i<p.length:=by omega
    have wD:=EH (f:=f) JN fA
    obtain⟨a,ha⟩:∃a,a=p[i-1]'(by omega):=⟨_,rfl⟩
    obtain⟨b,hb⟩:∃b,b=p[i]:=⟨_,rfl⟩
    have DS:a<cnt:=by rw[ha];exact hplt _ (List.getElem_mem _)
    have DT:b<cnt:=by rw[hb];exact hplt _ (List.getElem_mem _)
    have sE:a≠b:=by
     rw[ha,hb]
     exact List.pairwise_iff_getElem.1 oy (i-1) i (by omega) fA (by omega)
    have Pa:(p.map eN)[i-1]? =some [.int .i64 (a:Int)]:=by rw[List.getElem?_map,List.getElem?_eq_getElem (by omega),ha];rfl
    have Pb:(p.map eN)[i]? =some [.int .i64 (b:Int)]:=by rw[List.getElem?_map,List.getElem?_eq_getElem fA,hb];rfl
    rw[<-ha,<-hb]at wD
    have Sh:=lK (p.take i) f a b
    have Si:=lK (p.take i) f b a
    rw[List.length_take]at Sh Si
    have hl1:=blo b a
    have Pg:=blo a b
    have Pw:=hF.le a b DS DT
    have hu2:=hF.le b a DT DS
    have hca:=hc a b DS DT
    have DU:=hc b a DT DS
    generalize lJ f (p.take i)=fl at *
    have gA:=qP (R:=R2) (n:=cnt) DS
    have gB:=qP (R:=R2) (n:=cnt) DT
    have rA:=cM.r2 _ DS
    have rB:=cM.r2 _ DT
    have cA:=dz (f:=fl a) DT
    have cB:=dz (f:=fl b) DS
    have sA:=nF (f:=fl) (a:=a) (d:=1) DT
    have MI:bump fl a b 1 b=fl b:=jM fun h=>sE h.symm
    have sB:=nF (f:=bump fl a b 1) (a:=b) (b:=a) (d:=-1) (n:=cnt) DS
    rw[MI]at sB
    have gX:=cM.x
    have g2:=cM.t2
    have gi:(a:Int)<(cnt:Int):=by omega
    have ft:(b:Int)<(cnt:Int):=by omega
    have QZ:IntKind.i64.wrap ((i:Int)-1)=((i-1:Nat):Int):=by rw[aZ (by omega)];omega
    have xg:((i-1:Nat):Int)<(p.length:Int):=by omega
    have wA:IntKind.i64.wrap (fl a b+1)=fl a b+1:=aZ (by omega)
    have wB:IntKind.i64.wrap (fl b a-1)=fl b a+-1:=by rw[aZ (by omega)];omega
    have Lk:IntKind.i64.wrap ((i:Int)+1)=((i+1:Nat):Int):=ax (by omega)
    have l2:=jU R2 cnt cnt
    have lA:=cZ (fl a) cnt
    have lB:=cZ (fl b) cnt
    have fY:(R2 a=R2 b)=False:=by simp only[eq_iff_iff,iff_false];exact fun h=>sE (I.i2 _ _ DS DT h)
    have Ho:(R2 b=R2 a)=False:=by simp only[eq_iff_iff,iff_false];exact fun h=>sE (I.i2 _ _ DS DT h.symm)
    have xA:=zh I.sx (I.Lt a DS) (by decide)
    have xB:=zh I.sx (I.Lt b DT) (by decide)
    have yA:=zh I.s2 (I.Lt a DS) (by decide)
    have yB:=zh I.s2 (I.Lt b DT) (by decide)
    have qX:=dv (i:=X) (n:=st_c.next) (by have:=I.vx;omega)
    have q2:=dv (i:=o2) (n:=st_c.next) (by have:=I.v2;omega)
    have qA:=dv (i:=R2 a) (n:=st_c.next) (by have:=I.Ov a DS;omega)
    have qB:=dv (i:=R2 b) (n:=st_c.next) (by have:=I.Ov b DT;omega)
    rw[bq]at cA cB sA sB
    (try((repeat(revert hN;revert N;apply Pn.out));refine wk (tw @c0 (tw @c9 (tw @jj (tw @nj (tw @pI (tw @hi (tw @xg (tw @Pa (tw @Pb (tw @gA (tw @gB (tw @rA (tw @rB (tw @cA (tw @cB (tw @sA (tw @sB (tw @gX (tw @g2 (tw @gi (tw @ft (tw @QZ (tw @wA (tw @wB (tw @Lk (tw @l2 (tw @lA (tw @lB (tw @fY (tw @Ho (tw @xA (tw @xB (tw @yA (tw @yB (tw @qX (tw @q2 (tw @qA @qB))))))))))))))))))))))))))))))))))))) ?_;(repeat(refine Pn.mk ?_;intro N hN))))
    refine⟨_,?_,i+1,rfl,by omega,by omega,sd @Lk,?_,by(try dsimp only);omega⟩
    ·omega
    ·rw[wD]
     refine cM.push I DS DT sE ?_ ?_ fun j hj h1 h2=>?_
     ·simp only[go_sem, ↓reduceIte,Nat.reduceEqDiff,Nat.reduceAdd,Nat.reduceSub,Nat.reduceLeDiff,reduceCtorEq,fY]
     ·simp only[go_sem, ↓reduceIte,Nat.reduceEqDiff,Nat.reduceAdd,Nat.reduceSub,Nat.reduceLeDiff,reduceCtorEq,fY]
     ·simp only[go_sem, ↓reduceIte,Nat.reduceEqDiff,Nat.reduceAdd,Nat.reduceSub,Nat.reduceLeDiff,reduceCtorEq,h1,h2]
   ·have DX:i=p.length:=by omega
    subst DX
    rw[List.take_length]at cM
    have J3:IntKind.i64.wrap ((k:Int)+1)=((k+1:Nat):Int):=ax (by omega)
    have RZ:=Rz.bound (S:=fun v=>decide (v=x)) hxS hyS
    (try((repeat(revert hN;revert N;apply Pn.out));refine wk (tw @c0 (tw @c9 (tw @jj (tw @nj (tw @pI (tw @hi @J3)))))) ?_;(repeat(refine Pn.mk ?_;intro N hN))))
    refine⟨_,?_,k+1,_,rfl,sd @J3,by rw[Int.natCast_add];exact Rz,cM,by(try dsimp only);omega,fun _=>by omega,fun u v=>?_⟩
    ·rw[<-SB]at RZ;omega
    ·have h1:=(lK p f u v).2
     have h2:=blo u v
     rw[Int.natCast_add,Int.add_mul]
     omega
end Go.Proofs.YtgoelphibofcmaaGreat.V
