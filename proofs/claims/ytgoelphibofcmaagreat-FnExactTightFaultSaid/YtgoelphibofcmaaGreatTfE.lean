/- A range over a map, in whatever order. -/
import Derived.Test.YtgoelphibofcmaaGreatTfC
import Derived.Maps.RangeRun
import Derived.Test.YtgoelphibofcmaaGreatChecked
import Derived.Test.YtgoelphibofcmaaGreatTfD
import Derived.Test.YtgoelphibofcmaaGreatTfB
import Derived.RangeFuncNested
import Derived.RangeFuncBound
import Derived.RangeFuncCalls
import Derived.RangeFuncLeaves
import Derived.Shelf.Abstract
import Derived.Shelf.RegionOpen
import Derived.WalkKit
import Derived.OwnWalkIn
import Derived.TacticsInMore
import Derived.LoopNIn
import Derived.LoopIn
import Derived.BigQuiet
import Derived.RangeFuncBox
import Derived.RangeFuncWrites
import Derived.Maps.AppendAt
set_option linter.unusedVariables false
set_option linter.unusedSimpArgs false
set_option maxRecDepth 100000
set_option maxHeartbeats 16000000
namespace Go.Proofs.YtgoelphibofcmaaGreat.V
open Go.RowKit
def Bu (m:MK) (it nx ok en:Nat) (id:Id) (B:(Ex->Env->ar->Prop)->Env->ar->Prop) (b b1:Nat) (Q:Ex->Env->ar->Prop):Nat->List (List AV)->Env->ar->Prop
 |0,_,env,σ=>env it=.ptr id 0 0/\Q .normal (upd (upd env (some nx) (.gx [.bool false])) (some ok) (.bool false)) ⟨σ.get,σ.next+1⟩
 |n+1,left,env,σ=>env it=.ptr id 0 0/\∀i cs kv vv,left[i]? =some cs->part m.ka m.ks cs=some kv->cs[m.ks]? =some vv->
   B (aT b1 (dh (Bu m it nx ok en id B b b1 Q n (left.eraseIdx i)) (aT b Q))) (upd (upd (upd env (some nx) (.gx [.bool true,kv,vv])) (some ok) (.bool true)) (some en) (.gx [kv,vv])) ⟨σ.get,σ.next+1⟩
def Ga (m:MK) (tm:O) (site it nx ok en:Nat) (B:(Ex->Env->ar->Prop)->Env->ar->Prop) (b b1:Nat) (Q:Ex->Env->ar->Prop) (env:Env) (σ:ar):Prop:=
 ∃id r,cE env tm=.map id m/\σ.get id=some r/\r.w=true/\Bu m it nx ok en ⟨site,σ.next⟩ B b b1 Q r.rows.length r.rows (upd env (some it) (.ptr ⟨site,σ.next⟩ 0 0)) ⟨bB σ.get id {r with w:=false},σ.next+1⟩
variable {P:Program} {w w':World} {D D':Nat->Prop} {ι ι':Names} {hs:Nat} {g:Rows}
theorem js.CA (hc:∀b x,D b->w'.cell? ⟨b,x,none⟩=w.cell? ⟨b,x,none⟩) {a:AV} {v:Value} (h:js P w D a v):js P w' D a v:=by
 induction h with
 |int k n=>exact .int k n
 |bool b=>exact .bool b
 |str s=>exact .str s
 |cj=>exact .cj
 |gj=>exact .gj
 |iM=>exact .iM
 |iX=>exact .iX
 |z8 a c h=>exact .z8 a c h
 |sl rows b o n c sz vs h1 h2 h3 h4 h5 h5' h6 _ ih=>exact .sl rows b o n c sz vs h1 h2 h3 h4 h5 h5' (fun i j hi hj=>(hc b _ h4).trans (h6 i j hi hj)) ih
 |cr cs b o vs h1 MF h2 _ ih=>exact .cr cs b o vs h1 MF (fun j hj=>(hc b _ h1).trans (h2 j hj)) ih
 |agg cs vs f h1 h2 h3 _ ih=>exact .agg cs vs f h1 h2 h3 ih
 |fn f cz vs g h1 h2 h3 _ ih=>exact .fn f cz vs g h1 h2 h3 ih
theorem cq.CA (hc:∀b x,D b->w'.cell? ⟨b,x,none⟩=w.cell? ⟨b,x,none⟩) {a:AV} {v:Value} (h:cq P w D ι a v):cq P w' D ι a v:=by
 induction h with
 |eF a v h=>exact .eF a v (h.CA hc)
 |map id m B h1 h2=>exact .map id m B h1 h2
 |qx id c B h1 h2=>exact .qx id c B h1 h2
 |own id off len o cap B h1 h2 h3 h4 h5 h6=>exact .own id off len o cap B h1 h2 h3 h4 h5 h6
 |ptr id i off B h1 h2=>exact .ptr id i off B h1 h2
 |agg cs vs f h1 h2 h3 _ ih=>exact .agg cs vs f h1 h2 h3 ih
 |gx cs vs f h1 h2 _ ih=>exact .gx cs vs f h1 h2 ih
 |fn f cz vs g h1 h2 h3 _ ih=>exact .fn f cz vs g h1 h2 h3 ih
 |sV f cz vs g h1 h2 h3 _ ih=>exact .sV f cz vs g h1 h2 h3 ih
def ma (w:World) (rr:Nat):Prop:=∃m s seen c,w.heap[rr]? =some (.mapIter m s seen c)
theorem ma.cell {rr:Nat} (h:ma w rr) (x:Nat):w.cell? ⟨rr,x,none⟩=none:=by
 obtain⟨m,s,seen,c,h⟩:=h
 simp[World.cell?,h]
theorem gq.Ir {B:rz} {r:Row} (R:gq P w D ι B r):¬ma w B.b:=by
 rintro⟨m,s,seen,c,h⟩
 cases hk:B.k with
 |none=>obtain⟨c',T,h3,_⟩:=(R.row hk).wH;rw[h]at h3;cases h3
 |some k=>
  cases k with
  |map m=>obtain⟨_,es,c',h3,_⟩:=R.map m hk;rw[h]at h3;cases h3
  |chan c=>obtain⟨_,buf,s',q,h3,_⟩:=R.chan c hk;rw[h]at h3;cases h3
theorem xM {rr:Nat} (h:ma w rr) (h':ma w' rr) (ho:∀b,b≠rr->w'.heap[b]? =w.heap[b]?):(∀{a v},cq P w D ι a v->cq P w' D ι a v):=fun hr=>hr.CA fun b x _=>by
 by_cases hb:b=rr
 ·subst hb;rw[h.cell,h'.cell]
 ·exact World.cell?_of_block (ho b hb)
theorem fU.iter {rr:Nat} (S:fU P hs D ι g w) (h:ma w rr) (h':ma w' rr) (ho:∀b,b≠rr->w'.heap[b]? =w.heap[b]?) (hz:w'.heap.size=w.heap.size):fU P hs D ι g w':=
 ⟨by rw[hz];exact S.lo,fun b hb=>by rw[hz];exact S.dead b hb,fun id r hg=>by
  obtain⟨B,hB,R,k1,k2⟩:=S.row id r hg
  exact⟨B,hB,R.frame (ho _ fun e=>R.Ir (e▸h)) fun a v hr=>xM h h' ho hr,k1,k2⟩,S.inj⟩
theorem l6 {ops:Array Oper} {Q:Exit->Act->World->Prop} {a:Act} {o:Oper} {l:List Oper} {v:Value} (hg:o.guard=none) (fM:(execOp a.eval o).run P w=.ok (.value v) w') (h:wpList P ops Q l (a.put o.dst v) w'):wpList P ops Q (o::l) a w:=by
 unfold wpList
 rw[if_pos (by simp[Region.wanted,hg])]
 exact .inl (by unfold Oper.wp;rw[fM];exact h)
theorem ID {x y:AV} {u v:Value} (h1:cq P w D ι x u) (h2:cq P w D ι y v):cq P w D ι (.gx [x,y]) (.tuple #[u,v]):=
 .gx _ _ (fun j=>if j=0 then u else v) rfl (fun j hj=>by match j,hj with|0,_=>rfl|1,_=>rfl|j+2,hj=>simp at hj;omega) (fun j a ha=>by match j,ha with|0,ha=>simp at ha;subst ha;exact h1|1,ha=>simp at ha;subst ha;exact h2|j+2,ha=>simp at ha)
theorem IE {x y z:AV} {u v t:Value} (h1:cq P w D ι x u) (h2:cq P w D ι y v) (h3:cq P w D ι z t):cq P w D ι (.gx [x,y,z]) (.tuple #[u,v,t]):=
 .gx _ _ (fun j=>if j=0 then u else if j=1 then v else t) rfl (fun j hj=>by match j,hj with|0,_=>rfl|1,_=>rfl|2,_=>rfl|j+3,hj=>simp at hj;omega) (fun j a ha=>by match j,ha with|0,ha=>simp at ha;subst ha;exact h1|1,ha=>simp at ha;subst ha;exact h2|2,ha=>simp at ha;subst ha;exact h3|j+3,ha=>simp at ha)
theorem IC {x:AV} {u:Value} (h1:cq P w D ι x u):cq P w D ι (.gx [x]) (.tuple #[u]):=
 .gx _ _ (fun _=>u) rfl (fun j hj=>by match j,hj with|0,_=>rfl|j+1,hj=>simp at hj) (fun j a ha=>by match j,ha with|0,ha=>simp at ha;subst ha;exact h1|j+1,ha=>simp at ha)
structure Lk (P:Program) (w:World) (D:Nat->Prop) (ι:Names) (m:MK) (L:List MapEntry) (left:List (List AV)):Prop where
 len:left.length=L.length
 at_:∀(i:Nat) (cs:List AV),left[i]? =some cs->∃(e:MapEntry) (kv vv:AV),L[i]? =some e/\part m.ka m.ks cs=some kv/\cs[m.ks]? =some vv/\cq P w D ι kv e.key/\cq P w D ι vv e.val
theorem Lk.rep {m:MK} {L:List MapEntry} {left:List (List AV)} (h:Lk P w D ι m L left) (hr:∀{a v},cq P w D ι a v->cq P w' D' ι' a v):Lk P w' D' ι' m L left:=⟨h.len,fun i cs hi=>by
 obtain⟨e,kv,vv,h1,h2,h3,h4,h5⟩:=h.at_ i cs hi
 exact⟨e,kv,vv,h1,h2,h3,hr h4,hr h5⟩⟩
theorem mm {α β:Type} {l:List α} {k:List β} {i j:Nat} {x:α} (hl:l.length=k.length) (h:(l.eraseIdx i)[j]? =some x):∃q:Nat,l[q]? =some x/\(k.eraseIdx i)[j]? =k[q]? :=by
 rw[List.getElem?_eraseIdx]at h
 split at h
 ·rename_i hj;exact⟨j,h,by rw[List.getElem?_eraseIdx,if_pos hj]⟩
 ·rename_i hj;exact⟨j+1,h,by rw[List.getElem?_eraseIdx,if_neg hj]⟩
theorem Lk.erase {m:MK} {L:List MapEntry} {left:List (List AV)} (h:Lk P w D ι m L left) {i:Nat} (hi:i<L.length):Lk P w D ι m (L.eraseIdx i) (left.eraseIdx i):=⟨by
 rw[List.length_eraseIdx,List.length_eraseIdx,h.len],fun j cs hj=>by
 obtain⟨q,hq,he⟩:=mm h.len hj
 obtain⟨e,kv,vv,h1,h2⟩:=h.at_ q cs hq
 exact⟨e,kv,vv,he.trans h1,h2⟩⟩
theorem mW:∀{l:List MapEntry} {i:Nat} {e:MapEntry},(l.map (·.born)).Nodup->l[i]? =some e->l.filter (fun x=>x.born !=e.born)=l.eraseIdx i
 |x::l,0,e,hn,h=>by
  simp at h;subst h
  obtain⟨h1,h2⟩:=List.nodup_cons.1 (show(x.born::l.map (·.born)).Nodup from hn)
  rw[List.filter_cons,if_neg (by simp),List.eraseIdx_cons_zero]
  refine List.filter_eq_self.2 fun y hy=>?_
  have:y.born≠x.born:=fun hc=>h1 (by rw[<-hc];exact List.mem_map_of_mem hy)
  simpa using this
 |x::l,i+1,e,hn,h=>by
  obtain⟨h1,h2⟩:=List.nodup_cons.1 (show(x.born::l.map (·.born)).Nodup from hn)
  simp only[List.getElem?_cons_succ]at h
  have hx:x.born≠e.born:=fun hc=>h1 (by rw[hc];exact List.mem_map_of_mem (List.mem_of_getElem? h))
  rw[List.filter_cons,if_pos (by simpa using hx),List.eraseIdx_cons_succ,mW h2 h]
theorem C9 {es:Array MapEntry} {clock:Nat} {seen:Array Nat} {i:Nat} {e:MapEntry} (hs:JM es clock) (h:(leftOf es seen).toList[i]? =some e):(leftOf es (seen.push e.born)).toList=(leftOf es seen).toList.eraseIdx i:=by
 have hn:((leftOf es seen).toList.map (·.born)).Nodup:=by
  unfold leftOf
  rw[Array.toList_filter]
  exact((List.filter_sublist (p:=fun e=> !seen.contains e.born) (l:=es.toList)).map MapEntry.born).nodup hs.2
 rw[<-mW hn h]
 unfold leftOf
 rw[Array.toList_filter,Array.toList_filter,List.filter_filter]
 refine List.filter_congr fun x _=>?_
 rw[contains_push]
 cases seen.contains x.born<;>cases hb:(x.born==e.born)<;>simp_all
theorem eval_put {a:Act} {d:Nat} {v:Value} (h:d<a.tmps.size):(a.put (some d) v).eval (.tmp d)=v:=by
 simp[Act.put,Act.eval,h]
def II (ix ie b b1 ok:Nat) (De F2 Dd:Oper) (qP:List Oper) (mV:Code):Code:=
 .seq (.region ix #[De,F2] false) (.seq (.cond (.tmp ok) .skip (.exit b)) (.block b1 (.seq (.region ie (Dd::qP).toArray false) mV)))
structure G2 (P:Program) (md:List (Nat×Nat)) (nt fid s0 it nx ok en:Nat) (De F2 Dd:Oper) (qP:List Oper) (mV:Code) (vE:List aM) (rn:VC):Prop where
 h1:De.op=.next (.tmp it) false
 h2:De.dst=some nx
 h3:De.guard=none
 h4:F2.op=.extract (.tmp nx) 0
 h5:F2.dst=some ok
 h6:F2.guard=none
 h7:Dd.op=.entry (.tmp it)
 h8:Dd.dst=some en
 h9:Dd.guard=none
 OX:nx<nt
 Rz:ok<nt
 lt3:en<nt
 ne1:it≠nx
 ne2:it≠ok
 hE:allM (ko P (Dd::qP).toArray nt s0 false false #[] []) qP 1=some vE
 hR:jc P md nt fid mV=some rn
theorem Dn (hm:P.follows .mixedOrders=true) {md:List (Nat×Nat)} {nt fid s0 ix ie b b1 it nx ok en:Nat} {m:MK} {id:Id} {De F2 Dd:Oper} {qP:List Oper} {mV:Code} {vE:List aM} {rn:VC}
  (O:G2 P md nt fid s0 it nx ok en De F2 Dd qP mV vE rn) {rr bm:Nat} {es:Array MapEntry} {clock:Nat} (Fz:JM es clock) {ds:List Deferred} {n0:Nat} {D0:Nat->Prop} {ι0:Names} {w0:World} {Q:Ex->Env->ar->Prop} {Q':Exit->Act->World->Prop}
  (hQ:su P hs nt ds Q n0 D0 ι0 w0 Q') (hD0:¬D0 rr) (hrr:hs<=rr) (fZ:bm≠rr):
  ∀(n:Nat) (left:List (List AV)) (env:Env) (σ:ar) (a:Act) (w:World) (D:Nat->Prop) (ι:Names) (seen:Array Nat),
   Bu m it nx ok en id (dD (Sound P) (.seq (.dW false vE) rn)) b b1 Q n left env σ->St P hs nt D ι env σ a w->a.defers=ds->n0<=σ.next->Step hs D0 ι0 w0 D ι w->
   (∃sz C,ι id=some ⟨rr,sz,C,none⟩)->D rr->D bm->w.heap[rr]? =some (.mapIter (some bm) clock seen clock)->w.heap[bm]? =some (.map es clock)->left.length=n->Lk P w D ι m (leftOf es seen).toList left->
   oL P (II ix ie b b1 ok De F2 Dd qP mV) (Exit.inBlock b Q') (n+1) a w:=by
 intro n
 induction n with
 |zero=>
  intro left env σ a w D ι seen hv dc hd GF T hid R9 R8 hr hb hlen hL
  obtain⟨Kc,hq⟩:=hv
  have ha:a.tmps.getD it undef=.pointer (some ⟨rr,0,none⟩):=by
   have:=dc.env it
   rw[Kc]at this
   obtain⟨B,e,hB,_⟩:=ir this
   obtain⟨sz,C,hid⟩:=hid
   rw[hid]at hB;injection hB with hB;subst hB
   simpa using e
  have Q2:a.eval (.tmp it)=.pointer (some ⟨rr,0,none⟩):=ha
  rcases run_next_at (P:=P) w De.type rr bm clock clock seen es clock hr hb Fz.1 (Nat.le_refl _)with⟨_,fM⟩|⟨e,he,_⟩
  rotate_left
  ·have h0:(leftOf es seen).toList=[]:=List.eq_nil_of_length_eq_zero (by rw[<-hL.len,hlen])
   rw[h0]at he;simp at he
  have Ep:nx<a.tmps.size:=by rw[dc.size];exact O.OX
  have E2:=il (il dc.env (IC (.eF _ _ (.bool false))) (dst:=some nx) (fun d h=>by cases h;exact O.OX) dc.size) (.eF _ _ (.bool false)) (dst:=some ok) (fun d h=>by cases h;exact O.Rz) (by rw[eS];exact dc.size)
  show zS P (.seq _ _) _ a w
  refine lr (j3 (wp_region_list ?_))
  refine l6 (v:=.tuple #[.bool false]) (w':=w) O.h3 (by simp[execOp,O.h1,Q2,fM,Result.andThen]) ?_
  refine l6 (v:=.bool false) (w':=w) O.h6 (by rw[O.h2];simp[execOp,O.h4,eval_put Ep,Instr.extract]) ?_
  rw[O.h2,O.h5]
  refine lr (vn (t:=false) (eval_put (by rw[eS,dc.size];exact O.Rz)) (j3 (wp_exit ?_)))
  show Exit.inBlock b Q' (.exit b) _ _
  simp only[Exit.inBlock,if_true]
  exact hQ .normal _ ⟨σ.get,σ.next+1⟩ _ w D ι hq T ⟨dc.sb,dc.used.next,E2,by rw[eS,eS];exact dc.size⟩ (by rw[put_defers,put_defers];exact hd) (Nat.le_succ_of_le GF)
 |succ n ih=>
  intro left env σ a w D ι seen hv dc hd GF T hid R9 R8 hr hb hlen hL
  obtain⟨Kc,hq⟩:=hv
  have ha:a.tmps.getD it undef=.pointer (some ⟨rr,0,none⟩):=by
   have:=dc.env it
   rw[Kc]at this
   obtain⟨B,e,hB,_⟩:=ir this
   obtain⟨sz,C,hid⟩:=hid
   rw[hid]at hB;injection hB with hB;subst hB
   simpa using e
  have Q2:a.eval (.tmp it)=.pointer (some ⟨rr,0,none⟩):=ha
  rcases run_next_at (P:=P) w De.type rr bm clock clock seen es clock hr hb Fz.1 (Nat.le_refl _)with⟨h0,_⟩|⟨e,he,w1,rW,fM⟩
  ·have:=hL.len
   rw[hlen,Array.length_toList]at this;omega
  obtain⟨i,hi,El⟩:=List.getElem_of_mem he
  have PN:(leftOf es seen).toList[i]? =some e:=by rw[List.getElem?_eq_getElem hi,El]
  have ly:i<left.length:=by rw[hL.len];exact hi
  obtain⟨e',kv,vv,q1,q2,q3,q4,q5⟩:=hL.at_ i left[i] (List.getElem?_eq_getElem ly)
  rw[PN]at q1;injection q1 with q1;subst q1
  replace hq:=hq i left[i] kv vv (List.getElem?_eq_getElem ly) q2 q3
  have Kk:w1.heap[rr]? =some (.mapIter (some bm) clock seen clock):=by rcases rW with rfl|rfl<;>exact hr
  have eO:=MapKept.heap_set (o':=.mapIter (some bm) clock (seen.push e.born) clock) Kk
  obtain⟨w2,tn⟩:∃w2,ChangeMaps.setBlock w1 rr (.mapIter (some bm) clock (seen.push e.born) clock)=w2:=⟨_,rfl⟩
  have ho:∀k,k≠rr->w2.heap[k]? =w.heap[k]? :=fun k hk=>by
   rw[<-tn]
   refine(eO.2 k hk).trans ?_
   rcases rW with rfl|rfl<;>rfl
  have hz:w2.heap.size=w.heap.size:=by
   rw[<-tn]
   rcases rW with rfl|rfl<;>simp[ChangeMaps.setBlock]
  have Kl:w2.heap[rr]? =some (.mapIter (some bm) clock (seen.push e.born) clock):=by rw[<-tn];exact eO.1
  have wR:w2.os=w.os/\w2.tape=w.tape/\w2.output=w.output:=by
   rw[<-tn]
   rcases rW with rfl|rfl<;>exact⟨rfl,rfl,rfl⟩
  rw[tn]at fM
  clear tn eO
  have I1:ma w rr:=⟨_,_,_,_,hr⟩
  have I2:ma w2 rr:=⟨_,_,_,_,Kl⟩
  have rt:∀{a v},cq P w D ι a v->cq P w2 D ι a v:=xM I1 I2 ho
  have S2:=dc.sb.iter I1 I2 ho hz
  have T2:Step hs D0 ι0 w0 D ι w2:=⟨⟨wR.1.trans T.below.os,wR.2.1.trans T.below.tape,wR.2.2.trans T.below.output,by rw[hz];exact T.below.size,fun k hk=>(ho k (by omega)).trans (T.below.block k hk)⟩,fun k hk=>(ho k (fun hc=>hD0 (hc▸hk))).trans (T.pg k hk),T.dead,T.names,T.new⟩
  have HF:w2.heap[bm]? =some (.map es clock):=(ho bm fZ).trans hb
  have Ep:nx<a.tmps.size:=by rw[dc.size];exact O.OX
  have E1:bD P w2 D ι env a:=fun t=>rt (dc.env t)
  have E2:=il (il E1 (IE (.eF _ _ (.bool true)) (rt q4) (rt q5)) (dst:=some nx) (fun d h=>by cases h;exact O.OX) dc.size) (.eF _ _ (.bool true)) (dst:=some ok) (fun d h=>by cases h;exact O.Rz) (by rw[eS];exact dc.size)
  have E3:=il E2 (ID (rt q4) (rt q5)) (dst:=some en) (fun d h=>by cases h;exact O.lt3) (by rw[eS,eS];exact dc.size)
  have LB:=run_entry_at (P:=P) w2 rr bm clock seen es clock e Kl HF (mem_left he).1 Fz.2
  show zS P (.seq _ _) _ a w
  refine lr (j3 (wp_region_list ?_))
  refine l6 (v:=.tuple #[.bool true,e.key,e.val]) (w':=w2) O.h3 (by simp[execOp,O.h1,Q2,fM,Result.andThen]) ?_
  refine l6 (v:=.bool true) (w':=w2) O.h6 (by rw[O.h2];simp[execOp,O.h4,eval_put Ep,Instr.extract]) ?_
  rw[O.h2,O.h5]
  refine lr (vn (t:=true) (eval_put (by rw[eS,dc.size];exact O.Rz)) (j3 (wp_skip ?_)))
  refine r6 (lr (j3 (wp_region_list ?_)))
  show wpList P _ _ (Dd::qP) _ _
  have ha3:(((a.put (some nx) (.tuple #[.bool true,e.key,e.val])).put (some ok) (.bool true)).eval (.tmp it))=.pointer (some ⟨rr,0,none⟩):=by
   have n1:=O.ne1
   have n2:=O.ne2
   rw[<-Q2]
   simp[Act.put,Act.eval,Array.getD_eq_getD_getElem?,Array.getElem?_setIfInBounds,Ne.symm n1,Ne.symm n2]
  refine l6 (v:=.tuple #[e.key,e.val]) (w':=w2) O.h9 (by simp[execOp,O.h7,ha3,LB,Result.andThen]) ?_
  rw[O.h8]
  refine xW qP vE 1 _ ⟨σ.get,σ.next+1⟩ _ w2 D ι (fun _=>False) O.hE hq S2 dc.used.next (fun _ h=>h.elim) E3 (by rw[eS,eS,eS];exact dc.size) fun RX σ3 a3 w3 D3 ι3 hk T3 St3 Px SK=>?_
  refine pK hm mV rn O.hR _ RX σ3 a3 w3 D3 ι3 _ hk St3 fun ex Hr σ4 a4 w4 D4 ι4 HX T4 RL HK SL=>?_
  have J5:a4.defers=ds:=by rw[HK,Px,put_defers,put_defers,put_defers];exact hd
  have SU:n0<=σ4.next:=Nat.le_trans GF (Nat.le_trans (Nat.le_succ _) (Nat.le_trans SK SL))
  have Mc:=T3.trans T4
  have TT:=T2.trans Mc
  have sY:Bu m it nx ok en id (dD (Sound P) (.seq (.dW false vE) rn)) b b1 Q n (left.eraseIdx i) Hr σ4->oL P (II ix ie b b1 ok De F2 Dd qP mV) (Exit.inBlock b Q') (n+1) a4 w4:=fun hq5=>by
   refine ih (left.eraseIdx i) Hr σ4 a4 w4 D4 ι4 (seen.push e.born) hq5 RL J5 SU TT ?_ (Mc.dead _ R9) (Mc.dead _ R8) ((Mc.pg _ R9).trans Kl) ((Mc.pg _ R8).trans HF) ?_ ?_
   ·obtain⟨sz,C,hid⟩:=hid;exact⟨sz,C,Mc.names _ _ hid⟩
   ·rw[List.length_eraseIdx,if_pos ly,hlen];rfl
   ·rw[C9 Fz PN]
    exact(hL.erase hi).rep fun hr=>Mc.rep (rt hr)
  have out:∀ex,ex≠.normal->Q ex Hr σ4->Q' (QQ ex) a4 w4:=fun ex _ h=>hQ ex Hr σ4 a4 w4 D4 ι4 h TT RL J5 SU
  cases ex with
  |normal=>exact sY HX
  |ret=>exact out .ret (by simp) HX
  |exit jJ=>
   simp only[aT]at HX
   simp only[QQ,Exit.inBlock]
   by_cases h1:jJ=b1
   ·rw[if_pos h1]at HX ⊢
    exact sY HX
   ·rw[if_neg h1]at HX ⊢
    simp only[dh,aT]at HX
    show Exit.inBlock b Q' (.exit jJ) a4 w4
    simp only[Exit.inBlock]
    by_cases h2:jJ=b
    ·rw[if_pos h2]at HX ⊢
     exact hQ .normal Hr σ4 a4 w4 D4 ι4 HX TT RL J5 SU
    ·rw[if_neg h2]at HX ⊢
     exact out (.exit jJ) (by simp) HX
def CS (P:Program) (nt:Nat) (c:Code) (W:(Ex->Env->ar->Prop)->Env->ar->Prop):Prop:=
 ∀(hs:Nat) (Q:Ex->Env->ar->Prop) (env:Env) (σ:ar) (a:Act) (w:World) (D:Nat->Prop) (ι:Names) (Q':Exit->Act->World->Prop),W Q env σ->St P hs nt D ι env σ a w->su P hs nt a.defers Q σ.next D ι w Q'->zS P c Q' a w
theorem CS.code (hm:P.follows .mixedOrders=true) {md:List (Nat×Nat)} {nt fid:Nat} {c:Code} {vc:VC} (h:jc P md nt fid c=some vc):CS P nt c (dD (Sound P) vc):=
 fun _ Q env σ a w D ι Q' hv dc hQ=>pK hm c vc h Q env σ a w D ι Q' hv dc hQ
theorem CS.seq {nt:Nat} {x y:Code} {V W:(Ex->Env->ar->Prop)->Env->ar->Prop} (h:CS P nt x V) (k:CS P nt y W):CS P nt (.seq x y) (fun Q=>V (dh (W Q) Q)):=fun hs Q env σ a w D ι Q' hv dc hQ=>by
 refine lr (h hs _ env σ a w D ι _ hv dc fun ex iT σ1 a1 w1 D1 ι1 hq T jR hd hle=>?_)
 cases ex with
 |normal=>exact k hs Q iT σ1 a1 w1 D1 ι1 Q' hq jR (by rw[hd];exact hQ.later T hle)
 |exit id=>exact hQ (.exit id) iT σ1 a1 w1 D1 ι1 hq T jR hd hle
 |ret=>exact hQ .ret iT σ1 a1 w1 D1 ι1 hq T jR hd hle
theorem CS.rng (hm:P.follows .mixedOrders=true) {md:List (Nat×Nat)} {nt fid s0 sA site ia ix ie b b1 it nx ok en:Nat} {m:MK} {De F2 Dd Dh:Oper} {Iz qP:List Oper} {mV:Code} {vA vE:List aM} {rn:VC} {t k e:TypeId} {tm:Operand} {tm':O}
  (O:G2 P md nt fid s0 it nx ok en De F2 Dd qP mV vE rn) (h1:Dh.op=.range t tm) (h2:Dh.dst=some it) (h3:Dh.guard=none) (dz:it<nt) (ht:P.underlying t=some (.map k e)) (P4:cO P tm=some tm') (hA:allM (ko P (Iz++[Dh]).toArray nt sA false false #[] []) Iz 0=some vA):
  CS P nt (.seq (.region ia (Iz++[Dh]).toArray false) (.block b (.loop (II ix ie b b1 ok De F2 Dd qP mV))))
   (fun Q=>wpOps (Sound P) false vA (Ga m tm' site it nx ok en (dD (Sound P) (.seq (.dW false vE) rn)) b b1 Q)):=fun hs Q env σ a w D ι Q' hv dc hQ=>by
 refine lr (j3 (wp_region_list ?_))
 show wpList P _ _ (Iz++[Dh]) a w
 refine vw [Dh] Iz vA 0 env σ a w D ι (fun _=>False) hA hv dc.sb dc.used (fun _ h=>h.elim) dc.env dc.size fun iT σ1 a1 w1 D1 ι1 hk T rG tJ Fv=>?_
 obtain⟨id,r,hid,hg,hw,hr⟩:=hk
 have gp:=cJ rG.env P4
 rw[hid]at gp
 obtain⟨B,hv,hB,hk⟩:=EF gp
 obtain⟨B',dr,R,jA,oI⟩:=rG.sb.row id r hg
 rw[hB]at dr;injection dr with dr;subst dr
 obtain⟨hrsz,es,clock,hb,e9,⟨hlen,Fz⟩,hM⟩:=R.map m hk
 have QS:=R.lt
 have fM:=run_range_map (P:=P) w1 t k e B.b es clock ht hb
 refine l6 (v:=.pointer (some ⟨w1.heap.size,0,none⟩)) (w':=w1.alloc (.mapIter (some B.b) clock #[] clock)) h3 (by simp[execOp,h1,hv,fM,Result.andThen]) ?_
 rw[h2]
 obtain⟨w2,tn⟩:∃w2,w1.alloc (.mapIter (some B.b) clock #[] clock)=w2:=⟨_,rfl⟩
 have hblk:∀b,b<w1.heap.size->w2.heap[b]? =w1.heap[b]? :=fun b hb=>by rw[<-tn];exact Below.heap_alloc _ _ _ hb
 have j0:w2.heap[w1.heap.size]? =some (.mapIter (some B.b) clock #[] clock):=by rw[<-tn];exact heap_alloc_new _ _
 have hz:w2.heap.size=w1.heap.size+1:=by rw[<-tn];simp
 have wR:w2.os=w1.os/\w2.tape=w1.tape/\w2.output=w1.output:=by rw[<-tn];exact⟨rfl,rfl,rfl⟩
 rw[tn]
 clear tn fM
 let D2:Nat->Prop:=fun x=>D1 x∨x=B.b∨x=w1.heap.size
 let ι2:Names:=ke ι1 ⟨site,σ1.next⟩ ⟨w1.heap.size,1,0,none⟩
 have jq:ι1 ⟨site,σ1.next⟩=none:=fresh rG.used (fun h=>h)
 have Rq:∀{a v},cq P w1 D1 ι1 a v->cq P w2 D2 ι2 a v:=fun h=>h.frame (fun b hd=>hblk b (rG.sb.dead b hd)) (fun _ h=>.inl h) (eY jq)
 have xV:∀{j q C},σ1.get j=some q->ι2 j=some C->ι1 j=some C:=fun {j q C} hj hC=>by
  obtain⟨C',th,_⟩:=rG.sb.row j q hj
  have:=eY (B:=⟨w1.heap.size,1,0,none⟩) jq j C' th
  have e:=this.symm.trans hC
  injection e with e;rw[<-e];exact th
 have lt:∀{j q C},σ1.get j=some q->ι1 j=some C->C.b<w1.heap.size:=fun {j q C} hj hC=>by
  obtain⟨C',th,R',_⟩:=rG.sb.row j q hj
  rw[hC]at th;injection th with th;subst th
  exact R'.lt
 have MD:∀{j q},bB σ1.get id {r with w:=false} j=some q->∃q0,σ1.get j=some q0/\(q.w=true->q=q0/\j≠id)/\(j=id->q={r with w:=false}/\q0=r)/\(j≠id->q=q0):=fun {j q} h=>by
  unfold bB at h
  split at h
  ·rename_i e
   injection h with h;subst h
   exact⟨r,e▸hg,fun h=>(by cases h),fun _=>⟨rfl,rfl⟩,fun hc=>absurd e hc⟩
  ·rename_i e
   exact⟨q,h,fun _=>⟨rfl,e⟩,fun hc=>absurd hc e,fun _=>rfl⟩
 have S2:fU P hs D2 ι2 (bB σ1.get id {r with w:=false}) w2:=by
  refine⟨by rw[hz];exact Nat.le_succ_of_le rG.sb.lo,fun b hb=>?_,fun j q h=>?_,fun j j' q q' C C' h h' HY hC th he=>?_⟩
  ·rw[hz]
   rcases hb with hb|rfl|rfl
   ·exact Nat.lt_succ_of_lt (rG.sb.dead b hb)
   ·exact Nat.lt_succ_of_lt QS
   ·exact Nat.lt_succ_self _
  ·obtain⟨q0,LI,HY,yR,fZ⟩:=MD h
   obtain⟨C,hC,RC,k1,k2⟩:=rG.sb.row j q0 LI
   have hCl:=lt LI hC
   refine⟨C,eY jq j C hC,?_,fun OQ=>k1 ((HY OQ).1▸OQ),fun OQ hD=>?_⟩
   ·have RF:gq P w2 D2 ι2 C q0:=RC.frame (hblk _ hCl) fun a v h=>Rq h
    by_cases hj:j=id
    ·obtain⟨e1,e2⟩:=yR hj
     rw[e1,<-e2];exact RF.flag false
    ·rw[fZ hj];exact RF
   ·obtain⟨e1,e2⟩:=HY OQ
    rcases hD with hD|hD|hD
    ·exact k2 (e1▸OQ) hD
    ·exact e2 (rG.sb.inj j id q0 r C B LI hg (e1▸OQ) hC hB hD)
    ·omega
  ·obtain⟨q0,LI,S8,_⟩:=MD h
   obtain⟨q0',PX,_⟩:=MD h'
   exact rG.sb.inj j j' q0 q0' C C' LI PX ((S8 HY).1▸HY) (xV LI hC) (xV PX th) he
 have T2:Step hs D1 ι1 w1 D2 ι2 w2:=⟨⟨wR.1,wR.2.1,wR.2.2,by omega,fun k hk=>hblk k (Nat.lt_of_lt_of_le hk rG.sb.lo)⟩,fun b hb=>hblk b (rG.sb.dead b hb),fun _ h=>.inl h,eY jq,fun b hb=>by
  rcases hb with hb|rfl|rfl
  ·exact .inl hb
  ·exact .inr (jA hw)
  ·exact .inr rG.sb.lo⟩
 have E2:bD P w2 D2 ι2 (upd iT (some it) (.ptr ⟨site,σ1.next⟩ 0 0)) (a1.put (some it) (.pointer (some ⟨w1.heap.size,0,none⟩))):=
  il (fun t=>Rq (rG.env t)) (by have:=cq.ptr (P:=P) (w:=w2) (D:=D2) (ι:=ι2) ⟨site,σ1.next⟩ 0 0 ⟨w1.heap.size,1,0,none⟩ (dH _ _ _) rfl;simpa using this) (fun d h=>by cases h;exact dz) rG.size
 have L2:Lk P w2 D2 ι2 m (leftOf es #[]).toList r.rows:=by
  have he:(leftOf es #[]).toList=es.toList:=by simp[leftOf]
  rw[he]
  refine⟨by simpa using e9.symm,fun i cs hi=>?_⟩
  obtain⟨Pd,kv,vv,q1,q2,q3,q4,q5⟩:=hM i cs hi
  exact⟨Pd,kv,vv,by simpa using q1,q2,q3,Rq q4,Rq q5⟩
 show zS P (.block b (.loop (II ix ie b b1 ok De F2 Dd qP mV))) Q' _ w2
 exact r6 (Bo (r.rows.length+1) (Dn hm O Fz (ds:=a.defers) (n0:=σ.next) (D0:=D) (ι0:=ι) (w0:=w) hQ
  (fun hc=>by have:=dc.sb.dead _ hc;have:=T.below.size;omega) rG.sb.lo (by omega) r.rows.length r.rows _ ⟨bB σ1.get id {r with w:=false},σ1.next+1⟩ _ w2 D2 ι2 #[] hr
  ⟨S2,rG.used.upd.next,E2,by rw[eS];exact rG.size⟩ (by rw[put_defers];exact tJ) (Nat.le_succ_of_le Fv) (T.trans T2) ⟨1,0,dH _ _ _⟩ (.inr (.inr rfl)) (.inr (.inl rfl)) j0 ((hblk _ QS).trans hb) rfl L2))
theorem CS.fn {f:Nat} {fn:Func} {c:Code} {args:List AV} {σ:ar} {K:AV->ar->Prop} {vr:List ni} {W:(Ex->Env->ar->Prop)->Env->ar->Prop} (OB:P.funcs[f]? =some fn) (hc:fn.body=some c) (hr:fn.results.toList.mapM (Ck P)=some vr) (ha:fn.params.size+fn.nfree=args.length) (hle:fn.params.size+fn.nfree<=fn.ntmps)
  (h:CS P fn.ntmps c W) (hv:W (kb vr K) (ck args) σ):Call P f args σ K:=
 gz (uh OB hc hr ha hle fun hs w D ι a Q' dc hQ=>h hs (kb vr K) (ck args) σ a w D ι Q' hv dc hQ)
theorem rq (hm:P.follows .mixedOrders=true) {c:VC} {Q Q':Ex->Env->ar->Prop} {env:Env} {σ:ar} (hQ:∀x e s,Q x e s->Q' x e s) (h:dD (Call P) c Q env σ):dD (Sound P) c Q' env σ:=
 jm (fun _ _ _ _ h=>fR hm h) km c Q Q' env σ hQ h
theorem x8 {m:MK} {it nx ok en:Nat} {id:Id} {B B':(Ex->Env->ar->Prop)->Env->ar->Prop} {b b1:Nat} {Q Q':Ex->Env->ar->Prop} (hB:∀R R' e s,(∀x e s,R x e s->R' x e s)->B R e s->B' R' e s) (hQ:∀x e s,Q x e s->Q' x e s):
  ∀(n:Nat) (left:List (List AV)) (env:Env) (σ:ar),Bu m it nx ok en id B b b1 Q n left env σ->Bu m it nx ok en id B' b b1 Q' n left env σ
 |0,_,env,σ,h=>⟨h.1,hQ _ _ _ h.2⟩
 |n+1,left,env,σ,h=>⟨h.1,fun i cs kv vv h1 h2 h3=>hB _ _ _ _ (fun x e s hx=>by
  have hn:=x8 (id:=id) (m:=m) (it:=it) (nx:=nx) (ok:=ok) (en:=en) (b:=b) (b1:=b1) hB hQ n (left.eraseIdx i) e s
  cases x with
  |normal=>exact hn hx
  |ret=>exact hQ _ _ _ hx
  |exit jJ=>
   simp only[aT]at hx ⊢
   split at hx
   ·rename_i h1;rw[if_pos h1];exact hn hx
   ·rename_i h1
    rw[if_neg h1]
    simp only[dh,aT]at hx ⊢
    split at hx
    ·rename_i h2;rw[if_pos h2];exact hQ _ _ _ hx
    ·rename_i h2;rw[if_neg h2];exact hQ _ _ _ hx) (h.2 i cs kv vv h1 h2 h3)⟩
theorem Gb (hm:P.follows .mixedOrders=true) {m:MK} {tm:O} {site it nx ok en:Nat} {c:VC} {b b1:Nat} {Q Q':Ex->Env->ar->Prop} {env:Env} {σ:ar} (hQ:∀x e s,Q x e s->Q' x e s) (h:Ga m tm site it nx ok en (dD (Call P) c) b b1 Q env σ):Ga m tm site it nx ok en (dD (Sound P) c) b b1 Q' env σ:=by
 obtain⟨id,r,h1,h2,h3,h4⟩:=h
 exact⟨id,r,h1,h2,h3,x8 (B':=dD (Sound P) c) (fun R R' e s hR hb=>rq hm hR hb) hQ _ _ _ _ h4⟩
theorem vC {α:Type}:∀{l:List α} {i:Nat} {x:α},l[i]? =some x->(x::l.eraseIdx i).Perm l
 |y::l,0,x,h=>by simp at h;subst h;exact List.Perm.refl _
 |y::l,i+1,x,h=>by
  simp only[List.getElem?_cons_succ]at h
  rw[List.eraseIdx_cons_succ]
  exact(List.Perm.swap _ _ _).trans ((vC h).cons _)
theorem Qy {m:MK} {tm:O} {site it nx ok en:Nat} {c:VC} {b b1:Nat} {Q:Ex->Env->ar->Prop} {env:Env} {σ:ar} {id:Id} {r:Row} (I:List (List AV)->Env->ar->Prop) (h1:cE env tm=.map id m) (h2:σ.get id=some r) (h3:r.w=true) (Kc:([nx,ok,en]++xf c).contains it=false)
  (h0:I [] (upd env (some it) (.ptr ⟨site,σ.next⟩ 0 0)) ⟨bB σ.get id {r with w:=false},σ.next+1⟩)
  (step:∀pre cs rest e s kv vv,(pre++cs::rest).Perm r.rows->I pre e s->ga ([nx,ok,en]++xf c) (upd env (some it) (.ptr ⟨site,σ.next⟩ 0 0)) e->part m.ka m.ks cs=some kv->cs[m.ks]? =some vv->
   dD (Call P) c (aT b1 (dh (I (pre++[cs])) (aT b Q))) (upd (upd (upd e (some nx) (.gx [.bool true,kv,vv])) (some ok) (.bool true)) (some en) (.gx [kv,vv])) ⟨s.get,s.next+1⟩)
  (fin:∀pre e s,pre.Perm r.rows->I pre e s->ga ([nx,ok,en]++xf c) (upd env (some it) (.ptr ⟨site,σ.next⟩ 0 0)) e->Q .normal (upd (upd e (some nx) (.gx [.bool false])) (some ok) (.bool false)) ⟨s.get,s.next+1⟩):
  Ga m tm site it nx ok en (dD (Call P) c) b b1 Q env σ:=by
 refine⟨id,r,h1,h2,h3,?_⟩
 have Py:∀e,ga ([nx,ok,en]++xf c) (upd env (some it) (.ptr ⟨site,σ.next⟩ 0 0)) e->e it=.ptr ⟨site,σ.next⟩ 0 0:=fun e h=>by
  rw[h it Kc];simp[upd]
 have key:∀n left pre e s,(pre++left).Perm r.rows->left.length=n->I pre e s->ga ([nx,ok,en]++xf c) (upd env (some it) (.ptr ⟨site,σ.next⟩ 0 0)) e->Bu m it nx ok en ⟨site,σ.next⟩ (dD (Call P) c) b b1 Q n left e s:=by
  intro n
  induction n with
  |zero=>
   intro left pre e s hp hl hI hK
   have:left=[]:=List.eq_nil_of_length_eq_zero hl
   subst this
   rw[List.append_nil]at hp
   exact⟨Py e hK,fin pre e s hp hI hK⟩
  |succ n ih=>
   intro left pre e s hp hl hI hK
   refine⟨Py e hK,fun i cs kv vv hi hk hv=>?_⟩
   have ly:=(List.getElem?_eq_some_iff.1 hi).1
   have En:(cs::left.eraseIdx i).Perm left:=by
    exact vC hi
   have HS:(pre++cs::left.eraseIdx i).Perm r.rows:=(En.append_left pre).trans hp
   have MU:ga ([nx,ok,en]++xf c) (upd env (some it) (.ptr ⟨site,σ.next⟩ 0 0)) (upd (upd (upd e (some nx) (.gx [.bool true,kv,vv])) (some ok) (.bool true)) (some en) (.gx [kv,vv])):=
    ((hK.upd (fun t h=>by cases h;simp)).upd (fun t h=>by cases h;simp)).upd (fun t h=>by cases h;simp)
   refine jm (fun _ _ _ _ h=>h) aV c _ _ _ _ (fun x e' s' hx=>?_) (yg c _ _ _ (fun t ht=>List.mem_append_right _ ht) MU (step pre cs (left.eraseIdx i) e s kv vv HS hI hK hk hv))
   obtain⟨hx,Fu⟩:=hx
   have sY:I (pre++[cs]) e' s'->Bu m it nx ok en ⟨site,σ.next⟩ (dD (Call P) c) b b1 Q n (left.eraseIdx i) e' s':=fun Sg=>
    ih (left.eraseIdx i) (pre++[cs]) e' s' (by rw[List.append_assoc];exact HS) (by rw[List.length_eraseIdx,if_pos ly];omega) Sg Fu
   cases x with
   |normal=>exact sY hx
   |ret=>exact hx
   |exit jJ=>
    simp only[aT]at hx ⊢
    split at hx
    ·rename_i h1;rw[if_pos h1];exact sY hx
    ·rename_i h1;rw[if_neg h1];exact hx
 exact key _ r.rows [] _ _ (List.Perm.refl _) rfl h0 (ga.refl _ _)
end Go.Proofs.YtgoelphibofcmaaGreat.V

namespace Go.Proofs.YtgoelphibofcmaaGreat.V
open Go.RowKit
def L7:Code->Code
 | .seq a _=>a
 |c=>c
def GN:Code->Code
 | .seq _ b=>b
 |c=>c
def RH:Code->Code
 | .block _ c=>c
 |c=>c
def Ts:Code->Code
 | .loop c=>c
 |c=>c
def QL:Code->List Oper
 | .region _ o _=>o.toList
 |_=>[]
def rg2 (k:Code):Code:=L7 (L7 (GN (GN k)))
def To (k:Code):Code:=GN (L7 (GN (GN k)))
def rgL (k:Code):Code:=Ts (RH (To k))
def NM (k:Code):Code:=GN (GN (rgL k))
def Om:Oper:={dst:=none,op:=.nilCheck (.tmp 0),type:=0,pos:= "",after:= #[],guard:=none}
def rgP (k:Code):List Oper:=(QL (rg2 k)).dropLast
def rgO (k:Code):Oper:=(QL (rg2 k)).getLastD Om
def RA (k:Code) (i:Nat):Oper:=(QL (L7 (rgL k))).getD i Om
def Qq (k:Code):Oper:=(QL (L7 (RH (NM k)))).headD Om
def Qr (k:Code):List Oper:=(QL (L7 (RH (NM k)))).tail
def rgR (k:Code):Code:=GN (RH (NM k))
def Qs (P:Program) (v0 v1:VC) (vA:List aM) (m:MK) (tm:O) (site it nx ok en:Nat) (vE:List aM) (vR:VC) (b b1:Nat) (vT:VC) (Q:Ex->Env->ar->Prop):Env->ar->Prop:=
 dD (Sound P) v0 (dh (dD (Sound P) v1 (dh (wpOps (Sound P) false vA (Ga m tm site it nx ok en (dD (Sound P) (.seq (.dW false vE) vR)) b b1 (dh (dD (Sound P) vT Q) Q))) Q)) Q)
def NN (P:Program) (v0 v1:VC) (vA:List aM) (m:MK) (tm:O) (site it nx ok en:Nat) (vE:List aM) (vR:VC) (b b1:Nat) (vT:VC) (Q:Ex->Env->ar->Prop):Env->ar->Prop:=
 dD (Call P) v0 (dh (dD (Call P) v1 (dh (wpOps (Call P) false vA (Ga m tm site it nx ok en (dD (Call P) (.seq (.dW false vE) vR)) b b1 (dh (dD (Call P) vT Q) Q))) Q)) Q)
theorem vV {F F':Env->ar->Prop} {Q:Ex->Env->ar->Prop} (h:∀e s,F e s->F' e s):∀x e s,dh F Q x e s->dh F' Q x e s:=fun x e s hx=>by
 cases x with
 |normal=>exact h e s hx
 |ret=>exact hx
 |exit id=>exact hx
theorem IJ {P:Program} (hm:P.follows .mixedOrders=true) {v0 v1:VC} {vA:List aM} {m:MK} {tm:O} {site it nx ok en:Nat} {vE:List aM} {vR:VC} {b b1:Nat} {vT:VC} {Q:Ex->Env->ar->Prop} {env:Env} {σ:ar}
  (h:NN P v0 v1 vA m tm site it nx ok en vE vR b b1 vT Q env σ):Qs P v0 v1 vA m tm site it nx ok en vE vR b b1 vT Q env σ:=
 rq hm (vV fun _ _ h=>rq hm (vV fun _ _ h=>kQ (fun _ _ _ _ h=>fR hm h) km (fun _ _ h=>Gb hm (vV fun _ _ h=>rq hm (fun _ _ _ h=>h) h) h) _ _ _ h) h) h
end Go.Proofs.YtgoelphibofcmaaGreat.V

namespace Go.Proofs.YtgoelphibofcmaaGreat.V
open Go.RowKit
noncomputable def oa:Go.Code:=Tryz.f115.body.getD .skip
def DM:VC:=(.dW false [⟨(some 2),(.cH (.k .cj)),none,115000000,[]⟩])
def Ja:VC:=(.dW false [⟨(some 3),(.cH (.k .cj)),none,115001000,[]⟩])
def Jb:List aM:=[⟨(some 7),(.cH (.t 0)),none,115002000,[]⟩,⟨(some 8),(.zU (.t 7)),none,115002001,[]⟩,⟨(some 9),(.fG 4 (.t 8)),none,115002002,[]⟩,⟨(some 10),(.load false 1 (.t 9)),none,115002003,[]⟩]
def zG:List aM:=[⟨(some 15),(.extract 0 (.t 14)),none,115004001,[]⟩,⟨(some 4),(.new [(.int .i64 0),(.int .i64 0)]),none,115004002,[]⟩,⟨none,(.store 2 (.t 4) (.t 15)),none,115004003,[]⟩]
def zH:VC:=(.seq (.dW false [⟨(some 16),(.cH (.t 3)),none,115005000,[]⟩,⟨(some 17),(.load true 2 (.t 4)),none,115005001,[]⟩,⟨(some 18),(.kn 2 1 [(.t 17)]),none,115005002,[]⟩,⟨(some 19),(.append 2 (.t 16) (.t 18)),none,115005003,[]⟩,⟨(some 3),(.cH (.t 19)),none,115005004,[]⟩]) (.seq (.dW false [⟨(some 20),(.cH (.k (.int .i64 0))),none,115006000,[]⟩]) (.block 2 (.loop (.seq (.dW false [⟨(some 21),(.bin .lss .i64 (.t 20) (.k (.int .i64 4))),none,115007000,[]⟩]) (.seq (.cond (.t 21) .skip (.exit 2)) (.seq (.block 3 (.seq (.dW false [⟨(some 22),(.cH (.t 20)),none,115008000,[]⟩,⟨(some 5),(.cH (.t 22)),none,115008001,[]⟩]) (.seq (.dW false [⟨(some 23),(.load true 2 (.t 4)),none,115009000,[]⟩,⟨(some 24),(.cH (.t 5)),none,115009001,[]⟩,⟨(some 25),(.call 149 [(.t 23),(.t 24)]),none,115009002,[]⟩,⟨(some 6),(.new [(.int .i64 0),(.int .i64 0)]),none,115009003,[]⟩,⟨none,(.store 2 (.t 6) (.t 25)),none,115009004,[]⟩]) (.seq (.dW false [⟨(some 26),(.load true 2 (.t 6)),none,115010000,[]⟩,⟨(some 27),(.call 140 [(.t 26)]),none,115010001,[]⟩]) (.cond (.t 27) (.dW false [⟨(some 28),(.cH (.t 3)),none,115011000,[]⟩,⟨(some 29),(.load true 2 (.t 6)),none,115011001,[]⟩,⟨(some 30),(.kn 2 1 [(.t 29)]),none,115011002,[]⟩,⟨(some 31),(.append 2 (.t 28) (.t 30)),none,115011003,[]⟩,⟨(some 3),(.cH (.t 31)),none,115011004,[]⟩]) .skip))))) (.dW false [⟨(some 32),(.bin .add .i64 (.t 20) (.k (.int .i64 1))),none,115012000,[]⟩,⟨(some 20),(.cH (.t 32)),none,115012001,[]⟩]))))))))
def zI:VC:=(.seq (.dW false [⟨(some 33),(.cH (.t 3)),none,115013000,[]⟩,⟨(some 34),(.call 172 [(.t 33)]),none,115013001,[]⟩,⟨(some 2),(.cH (.t 34)),none,115013002,[]⟩]) .ret)
def zK:List ni:=[(.tmp 2)]
def DH:O:=(.t 10)
theorem ND:G2 Tryz.prog [] Tryz.f115.ntmps 115 115004000 11 12 13 14 (RA oa 0) (RA oa 1) (Qq oa) (Qr oa) (rgR oa) zG zH:=⟨by kernel_rfl,by kernel_rfl,by kernel_rfl,by kernel_rfl,by kernel_rfl,by kernel_rfl,by kernel_rfl,by kernel_rfl,by kernel_rfl,by decide,by decide,by decide,by decide,by decide,by kernel_rfl,by kernel_rfl⟩
theorem NP:oa=.seq (L7 oa) (.seq (L7 (GN oa)) (.seq (.seq (.region 2 (rgP oa++[rgO oa]).toArray false) (.block 0 (.loop (II 3 4 0 1 13 (RA oa 0) (RA oa 1) (Qq oa) (Qr oa) (rgR oa))))) (GN (GN (GN oa))))):=by kernel_rfl
theorem Ms (m:MK):CS Tryz.prog Tryz.f115.ntmps oa (Qs Tryz.prog DM Ja Jb m DH 115002999 11 12 13 14 zG zH 0 1 zI):=by
 rw[NP]
 exact CS.seq (CS.code (md:=[]) (fid:=115) mixed (by kernel_rfl)) (CS.seq (CS.code (md:=[]) (fid:=115) mixed (by kernel_rfl)) (CS.seq (CS.rng (tm:=.tmp 10) (sA:=115002000) (t:=107) (k:=50) (e:=2) mixed ND (by kernel_rfl) (by kernel_rfl) (by kernel_rfl) (by decide) (by kernel_rfl) (by kernel_rfl) (by kernel_rfl)) (CS.code (md:=[]) (fid:=115) mixed (by kernel_rfl))))
theorem NL {args:List AV} {σ:ar} {K:AV->ar->Prop} (ha:args.length=Tryz.f115.params.size) (m:MK) (h:NN Tryz.prog DM Ja Jb m DH 115002999 11 12 13 14 zG zH 0 1 zI (kb zK K) (ck args) σ):Call Tryz.prog 115 args σ K:=
 CS.fn Tryz.func115 (by kernel_rfl) (by kernel_rfl) ha.symm (by decide) (Ms m) (IJ mixed h)
end Go.Proofs.YtgoelphibofcmaaGreat.V

namespace Go.Proofs.YtgoelphibofcmaaGreat.V
open Go.RowKit
attribute [local irreducible] dD wpOps gI Call
attribute [local go_sem] aK fW eU gE gy cE upd ck K.av cN AV.cells AV.cell rowOf rowsOf part ld rowAt bB bY dO ev iI bK db eI gr e8 dx eB cZ cY ea ec bQ aY cQ bP cU cR ez eC eA cP bV da ew bL aL cW cF iH bz cK bR aU dh aT dP AV.undef bF bG eh eu dX dY cI eH eK cD eE eD cV cX List.getD_cons_zero List.getD_cons_succ List.getD_nil List.all_cons List.all_nil Bool.and_true Bool.true_and Bool.and_self Bool.not_true Bool.not_false Option.map_some Option.map_none Option.bind_some Option.bind_none List.length_cons List.length_nil List.take_succ_cons List.take_zero List.take_nil List.drop_succ_cons List.drop_zero List.drop_nil List.head?_cons List.map_cons List.map_nil List.getElem?_cons_zero List.getElem?_cons_succ List.cons_append List.nil_append List.append_nil List.length_map List.set_cons_zero List.set_cons_succ Nat.reduceMul eq_self Int.toNat_natCast Int.natCast_nonneg and_self true_and and_true decide_true decide_false Bool.false_eq_true Nat.zero_add Nat.add_zero List.contains_cons List.contains_nil Bool.or_false Bool.false_or beq_self_eq_true Nat.reduceBEq ne_eq not_true_eq_false not_false_eq_true Id.mk.injEq false_and and_false Nat.reduceLT Int.reduceLE Int.reduceLT Int.reduceToNat Int.reduceNeg Int.reduceAdd Nat.le_refl List.length_append beq_true beq_false Bool.not_eq_eq_eq_not or_false false_or dQ aj aq aH bd bE cm aW bc aN bf cL bU
def gh (p:ai):Nat->List ai
 |0=>[p]
 |d+1=>if r8 (bJ p (d:Nat))=true then gh p d++[bJ p (d:Nat)]else gh p d
def kU (l:List ae):List ai:=l.flatMap fun t=>gh t.aF 4
theorem lK (p:ai):∀d,0<(gh p d).length/\(gh p d).length<=d+1
 |0=>by simp[gh]
 |d+1=>by
  have:=lK p d
  rw[gh]
  split<;>(try simp)<;>omega
theorem Bg (p x:ai):∀d,x∈gh p d↔x=p∨∃k:Nat,k<d/\x=bJ p k/\r8 x=true
 |0=>by simp[gh]
 |d+1=>by
  have ih:=Bg p x d
  rw[gh]
  split
  ·rename_i h
   rw[List.mem_append,ih,List.mem_singleton]
   constructor
   ·rintro((h1|⟨k,h1,h2⟩)|rfl)
    ·exact .inl h1
    ·exact .inr ⟨k,by omega,h2⟩
    ·exact .inr ⟨d,by omega,rfl,h⟩
   ·rintro(h1|⟨k,h1,h2,h3⟩)
    ·exact .inl (.inl h1)
    ·by_cases hk:k=d
     ·subst hk;exact .inr h2
     ·exact .inl (.inr ⟨k,by omega,h2,h3⟩)
  ·rename_i h
   rw[ih]
   constructor
   ·rintro(h1|⟨k,h1,h2⟩)
    ·exact .inl h1
    ·exact .inr ⟨k,by omega,h2⟩
   ·rintro(h1|⟨k,h1,h2,h3⟩)
    ·exact .inl h1
    ·by_cases hk:k=d
     ·subst hk;rw[h2]at h3;exact absurd h3 h
     ·exact .inr ⟨k,by omega,h2,h3⟩
theorem tQ {l:List ae} {x:ai}:x∈kU l↔∃t∈l,x=t.aF∨∃k:Nat,k<4/\x=bJ t.aF k/\r8 x=true:=by
 unfold kU
 rw[List.mem_flatMap]
 simp only[Bg]
theorem qn (l:List ae) (t:ae):kU (l++[t])=kU l++gh t.aF 4:=by simp[kU]
theorem tu:∀l:List ae,(kU l).length<=l.length*5
 |[]=>by simp[kU]
 |t::l=>by
  have h:=tu l
  have h2:=(lK t.aF 4).2
  unfold kU at *
  rw[List.flatMap_cons,List.length_append,List.length_cons]
  omega
theorem sF {a b:ae} (h:ad a=ad b):a=b:=by
 cases a with|mk p t=>cases b with|mk p' t'=>cases p;cases p';simp[ad]at h;simp[h]
theorem ze {l:List ae} {ts:List ae} (h:(l.map ad).Perm (ts.map ad)) (x:ae):x∈l↔x∈ts:=by
 have h2:ad x∈l.map ad↔ad x∈ts.map ad:=h.mem_iff
 constructor
 ·intro hx
  obtain⟨y,hy,e⟩:=List.mem_map.1 (h2.1 (List.mem_map_of_mem hx))
  rw[<-sF e];exact hy
 ·intro hx
  obtain⟨y,hy,e⟩:=List.mem_map.1 (h2.2 (List.mem_map_of_mem hx))
  rw[<-sF e];exact hy
def ArI (σ:ar) (T:Id) (ts:List ae) (pre:List (List AV)) (e0:Env) (s0:ar):Prop:=
 ∃l':List ae,pre=l'.map ad/\((l'=[]/\e0 3=.cj)∨∃o:Id,e0 3=.own o 0 (kU l').length/\s0.get o=some ⟨true,2,(kU l').map aa⟩/\σ.next<=o.aZ/\o.aZ<s0.next)/\σ.next<=s0.next/\(∀x:Id,x.aZ<σ.next->x≠T->s0.get x=σ.get x)/\s0.get T=some ⟨false,mP.nA,ts.map ad⟩
theorem G8 {σ:ar} {c T O:Id} {s:aB} {ts:List ae} (h:pC σ.get σ.next c T O s ts) (hF:gQ ts) (h0:ts≠[]) (qs:List ai) (hR:kX qs) (hm:∀x,x∈qs↔x∈kU ts):
  Call Tryz.prog 115 [.ptr c 0 0] σ (fun r σ'=>∃(o:Id) (X:List ai),r=.own o 0 qs.length/\σ'.get o=some ⟨true,2,(qs++X).map aa⟩/\σ.next<=o.aZ/\o.aZ<σ'.next/\σ.next<=σ'.next/\(∀x:Id,x.aZ<σ.next->x≠T->σ'.get x=σ.get x)/\σ'.get T=some ⟨false,mP.nA,ts.map ad⟩):=by
 refine NL rfl mP ?_
 have fA:=h.row
 have JG:=h.tl
 have v1:=dw h.cv
 have v2:=dw h.tv
 unfold NN
 rw[DM]
 (try((repeat(revert hN;revert N;apply Pn.out));refine wk @fA ?_;(repeat(refine Pn.mk ?_;intro N hN))))
 have hTw:((⟨115002999,σ.next+1+1+1⟩:Id)=T)=False:=eq_false fun e=>by have:=h.tv;rw[<-e]at this;(try dsimp only at this);omega
 refine BN (Qy (id:=T) (r:=⟨true,mP.nA,ts.map ad⟩) (ArI σ T ts) (sd @DH.eq_1) (sd (tw @JG @v2)) rfl (by decide) ?_ ?_ ?_)
 ·exact⟨[],rfl,.inl ⟨rfl,sd @Nat.zero_add⟩,by(try dsimp only);omega,fun x hx hT=>by
   have h1:=dw hx
   have h2:=eq_false hT
   simp only[go_sem, ↓reduceIte,Nat.reduceEqDiff,Nat.reduceAdd,Nat.reduceSub,Nat.reduceLeDiff,reduceCtorEq,h1,h2],sd @Nat.zero_add⟩
 ·rintro pre cs rest e0 s0 kv vv hp ⟨l',rfl,hout,GF,jq,hT⟩ hK hpart hvv
  have rU:cs∈ts.map ad:=hp.subset (by simp)
  obtain⟨tl,hx,rfl⟩:=List.mem_map.1 rU
  have hlen:=hp.length_eq
  simp only[List.length_append,List.length_map,List.length_cons]at hlen
  have AJ:=hF.sH
  have Jt:=tu l'
  have HW:r8 tl.aF=true:=by
   obtain⟨i,hi,rfl⟩:=List.getElem_of_mem hx
   have:=hF.pt hi
   rwa [iE hi]at this
  obtain⟨hxx,LQ⟩:=om HW
  simp[part,ad,MK.ks]at hpart hvv
  subst hpart hvv
  rw[zG,zH]
  have Q1:=h.tv
  have vT:=dw (i:=T) (n:=s0.next) (by omega)
  clear hp rU hK
  rcases hout with⟨AM,e3⟩|⟨o,e3,og,on,ov⟩
  ·have tM:(kU l'++gh tl.aF 0).length=1:=by rw[AM];rfl
   have kh:(kU l'++gh tl.aF 0).map aa=[aa tl.aF]:=by rw[AM];rfl
   (try((repeat(revert hN;revert N;apply Pn.out));refine wk (tw @e3 @aa.eq_1) ?_;(repeat(refine Pn.mk ?_;intro N hN))))
   refine aJ (fun n env st=>∃d:Nat,n=(4)-d/\d<=(4)/\env 20=.int .i64 (d:Int)/\st.get ⟨115004002,s0.next+1⟩=some ⟨true,2,[aa tl.aF]⟩/\((∃u:Id,env 3=.own u 0 (kU l'++gh tl.aF d).length/\st.get u=some ⟨true,2,(kU l'++gh tl.aF d).map aa⟩/\s0.next+2<=u.aZ/\u.aZ<st.next)/\s0.next+3<=st.next/\(∀y:Id,y.aZ<σ.next->y≠T->st.get y=σ.get y)/\st.get T=some ⟨false,mP.nA,ts.map ad⟩)) (4) ⟨0,by omega,by omega,sl @aa.eq_1,sl @aa.eq_1,by(try dsimp only);exact⟨⟨⟨115005003,s0.next+1+1⟩,sd @tM,sd (tw @kh @aa.eq_1),by(try dsimp only);omega,by(try dsimp only);omega⟩,by omega,fun y hy FB=>by
    have h1:=dw (i:=y) (n:=s0.next) (by omega)
    have h2:=jq y hy FB
    simp only[go_sem, ↓reduceIte,Nat.reduceEqDiff,Nat.reduceAdd,Nat.reduceSub,Nat.reduceLeDiff,reduceCtorEq,h1,h2],sd (tw @vT @hT)⟩⟩ ?_
   rintro n_b env_b st_b ⟨d,rfl,ble,pk,bg0,bI0⟩ ej
   have b4:=ej 4 (by kernel_rfl)
   simp only[go_sem, ↓reduceIte,Nat.reduceEqDiff,Nat.reduceAdd,Nat.reduceSub,Nat.reduceLeDiff,reduceCtorEq,aa]at b4
   clear ej
   obtain⟨⟨u,b3,bu,bun,RU⟩,bn,ej,bT⟩:=bI0
   have GB:(kU l'++gh tl.aF d).length<=16777215:=by
    have:=(lK tl.aF d).2
    rw[List.length_append];omega
   obtain⟨L,hL⟩:∃L,kU l'++gh tl.aF d=L:=⟨_,rfl⟩
   rw[hL]at b3 bu GB
   have Na:=(lK tl.aF d).2
   have Qx:=dw (i:=T) (n:=st_b.next) (by omega)
   have Je:=dw RU
   have tU:=dw (i:=⟨115004002,s0.next+1⟩) (n:=st_b.next) (by(try dsimp only);omega)
   by_cases hd:(d:Int)<4
   ·have eL:∀{e:Env} {gg:Rows} {nx:Nat},(e 20=.int .i64 (IntKind.i64.wrap ((d:Int)+1)))->(gg ⟨115004002,s0.next+1⟩=some ⟨true,2,[aa tl.aF]⟩)->((∃u:Id,e 3=.own u 0 (kU l'++gh tl.aF (d+1)).length/\gg u=some ⟨true,2,(kU l'++gh tl.aF (d+1)).map aa⟩/\s0.next+2<=u.aZ/\u.aZ<nx)/\s0.next+3<=nx/\(∀y:Id,y.aZ<σ.next->y≠T->gg y=σ.get y)/\gg T=some ⟨false,mP.nA,ts.map ad⟩)->∃m0,m0<(4)-d/\∃d:Nat,m0=(4)-d/\d<=(4)/\e 20=.int .i64 (d:Int)/\gg ⟨115004002,s0.next+1⟩=some ⟨true,2,[aa tl.aF]⟩/\((∃u:Id,e 3=.own u 0 (kU l'++gh tl.aF d).length/\gg u=some ⟨true,2,(kU l'++gh tl.aF d).map aa⟩/\s0.next+2<=u.aZ/\u.aZ<nx)/\s0.next+3<=nx/\(∀y:Id,y.aZ<σ.next->y≠T->gg y=σ.get y)/\gg T=some ⟨false,mP.nA,ts.map ad⟩):=fun x1 x2 x3=>⟨_,by omega,d+1,rfl,by omega,(by rw[x1,ax (by omega)]),x2,x3⟩
    have dc:=vZ tl.aF d (jg (by omega)) hxx LQ
    have rF:=j7 (bJ tl.aF d)
    have CQ:(L.map aa).length=L.length:=by simp
    cases hpd:r8 (bJ tl.aF d)
    ·rw[hpd]at rF
     have iU:kU l'++gh tl.aF (d+1)=L:=by rw[gh,hpd];exact hL
     (repeat(first|((repeat(revert hN;revert N;apply Pn.out));refine wk (tw @pk (tw @bg0 (tw @b4 (tw @b3 (tw @hd (tw @tU @aa.eq_1)))))) ?_;(repeat(refine Pn.mk ?_;intro N hN)))|((try apply Or.inl);refine⟨_,ao.x (dc) (sd (tw @pk (tw @bg0 (tw @b4 (tw @b3 (tw @hd (tw @tU @aa.eq_1))))))),?_⟩;refine hN _ _ ?_;clear hN N)|((try apply Or.inl);refine⟨_,ao.x (rF) (sd (tw @pk (tw @bg0 (tw @b4 (tw @b3 (tw @hd (tw @tU @aa.eq_1))))))),?_⟩;refine hN _ _ ?_;clear hN N)))
     refine eL ?_ ?_ (by(try dsimp only);exact⟨⟨u,by rw[iU];simp only[go_sem, ↓reduceIte,Nat.reduceEqDiff,Nat.reduceAdd,Nat.reduceSub,Nat.reduceLeDiff,reduceCtorEq,b3],by rw[iU];simp only[go_sem, ↓reduceIte,Nat.reduceEqDiff,Nat.reduceAdd,Nat.reduceSub,Nat.reduceLeDiff,reduceCtorEq,bu,Je],by omega,by omega⟩,by omega,fun y hy FB=>by
      have h1:=dw (i:=y) (n:=st_b.next) (by omega)
      have h2:=ej y hy FB
      simp only[go_sem, ↓reduceIte,Nat.reduceEqDiff,Nat.reduceAdd,Nat.reduceSub,Nat.reduceLeDiff,reduceCtorEq,h1,h2],sd (tw @Qx @bT)⟩)
     all_goals simp only[go_sem, ↓reduceIte,Nat.reduceEqDiff,Nat.reduceAdd,Nat.reduceSub,Nat.reduceLeDiff,reduceCtorEq,pk,bg0,b4,tU,aa]
    ·rw[hpd]at rF
     have iU:kU l'++gh tl.aF (d+1)=L++[bJ tl.aF d]:=by rw[gh,hpd,if_pos rfl,<-hL,List.append_assoc]
     have GG:(L++[bJ tl.aF d]).length=L.length+1:=by rw[List.length_append];rfl
     have z6:(L++[bJ tl.aF d]).map aa=L.map aa++[aa (bJ tl.aF d)]:=by simp
     have uT:=dm (a:=T) (b:=u) (by omega)
     have ux:=dm (a:=⟨115004002,s0.next+1⟩) (b:=u) (by(try dsimp only);omega)
     (repeat(first|((repeat(revert hN;revert N;apply Pn.out));refine wk (tw @pk (tw @bg0 (tw @b4 (tw @b3 (tw @bu (tw @hd (tw @Je (tw @tU (tw @ux (tw @CQ (tw @GB @aa.eq_1))))))))))) ?_;(repeat(refine Pn.mk ?_;intro N hN)))|((try apply Or.inl);refine⟨_,ao.x (dc) (sd (tw @pk (tw @bg0 (tw @b4 (tw @b3 (tw @bu (tw @hd (tw @Je (tw @tU (tw @ux (tw @CQ (tw @GB @aa.eq_1)))))))))))),?_⟩;refine hN _ _ ?_;clear hN N)|((try apply Or.inl);refine⟨_,ao.x (rF) (sd (tw @pk (tw @bg0 (tw @b4 (tw @b3 (tw @bu (tw @hd (tw @Je (tw @tU (tw @ux (tw @CQ (tw @GB @aa.eq_1)))))))))))),?_⟩;refine hN _ _ ?_;clear hN N)))
     refine eL ?_ ?_ (by(try dsimp only);exact⟨⟨⟨115011003,st_b.next+1+1+1+1⟩,by rw[iU,GG];simp only[go_sem, ↓reduceIte,Nat.reduceEqDiff,Nat.reduceAdd,Nat.reduceSub,Nat.reduceLeDiff,reduceCtorEq],by rw[iU,z6];simp only[go_sem, ↓reduceIte,Nat.reduceEqDiff,Nat.reduceAdd,Nat.reduceSub,Nat.reduceLeDiff,reduceCtorEq,aa],by(try dsimp only);omega,by(try dsimp only);omega⟩,by omega,fun y hy FB=>by
      have h1:=dw (i:=y) (n:=st_b.next) (by omega)
      have h2:=ej y hy FB
      have h3:=dm (a:=y) (b:=u) (by omega)
      simp only[go_sem, ↓reduceIte,Nat.reduceEqDiff,Nat.reduceAdd,Nat.reduceSub,Nat.reduceLeDiff,reduceCtorEq,h1,h2,h3],sd (tw @Qx (tw @uT @bT))⟩)
     all_goals simp only[go_sem, ↓reduceIte,Nat.reduceEqDiff,Nat.reduceAdd,Nat.reduceSub,Nat.reduceLeDiff,reduceCtorEq,pk,bg0,b4,tU,ux,aa]
   ·have HK:d=4:=by omega
    subst HK
    (try((repeat(revert hN;revert N;apply Pn.out));refine wk (tw @pk (tw @bg0 (tw @b4 @hd))) ?_;(repeat(refine Pn.mk ?_;intro N hN))))
    exact⟨l'++[tl],by rw[List.map_append];rfl,.inr ⟨u,by rw[qn,hL];simp only[go_sem, ↓reduceIte,Nat.reduceEqDiff,Nat.reduceAdd,Nat.reduceSub,Nat.reduceLeDiff,reduceCtorEq,b3],by rw[qn,hL];exact bu,by omega,by(try dsimp only);omega⟩,by(try dsimp only);omega,ej,bT⟩
  ·have vo:=dw ov
   have oT:=dm (a:=T) (b:=o) (by omega)
   have pS:((kU l').map aa).length=(kU l').length:=by simp
   have tM:(kU l'++gh tl.aF 0).length=(kU l').length+1:=by simp[gh]
   have kh:(kU l'++gh tl.aF 0).map aa=(kU l').map aa++[aa tl.aF]:=by simp[gh]
   have e1:(kU l').length<=16777215:=by omega
   have xo:=dm (a:=o) (b:=⟨115004002,s0.next+1⟩) (by(try dsimp only);omega)
   (try((repeat(revert hN;revert N;apply Pn.out));refine wk (tw @e3 (tw @og (tw @vo (tw @pS (tw @e1 @aa.eq_1))))) ?_;(repeat(refine Pn.mk ?_;intro N hN))))
   refine aJ (fun n env st=>∃d:Nat,n=(4)-d/\d<=(4)/\env 20=.int .i64 (d:Int)/\st.get ⟨115004002,s0.next+1⟩=some ⟨true,2,[aa tl.aF]⟩/\((∃u:Id,env 3=.own u 0 (kU l'++gh tl.aF d).length/\st.get u=some ⟨true,2,(kU l'++gh tl.aF d).map aa⟩/\s0.next+2<=u.aZ/\u.aZ<st.next)/\s0.next+3<=st.next/\(∀y:Id,y.aZ<σ.next->y≠T->st.get y=σ.get y)/\st.get T=some ⟨false,mP.nA,ts.map ad⟩)) (4) ⟨0,by omega,by omega,sl (tw @aa.eq_1 @xo),sl (tw @aa.eq_1 @xo),by(try dsimp only);exact⟨⟨⟨115005003,s0.next+1+1⟩,sd @tM,sd (tw @kh @aa.eq_1),by(try dsimp only);omega,by(try dsimp only);omega⟩,by omega,fun y hy FB=>by
    have h1:=dw (i:=y) (n:=s0.next) (by omega)
    have h2:=jq y hy FB
    have h3:=dm (a:=y) (b:=o) (by omega)
    simp only[go_sem, ↓reduceIte,Nat.reduceEqDiff,Nat.reduceAdd,Nat.reduceSub,Nat.reduceLeDiff,reduceCtorEq,h1,h2,h3],sd (tw @vT (tw @hT @oT))⟩⟩ ?_
   rintro n_b env_b st_b ⟨d,rfl,ble,pk,bg0,bI0⟩ ej
   have b4:=ej 4 (by kernel_rfl)
   simp only[go_sem, ↓reduceIte,Nat.reduceEqDiff,Nat.reduceAdd,Nat.reduceSub,Nat.reduceLeDiff,reduceCtorEq,aa,xo]at b4
   clear ej
   obtain⟨⟨u,b3,bu,bun,RU⟩,bn,ej,bT⟩:=bI0
   have GB:(kU l'++gh tl.aF d).length<=16777215:=by
    have:=(lK tl.aF d).2
    rw[List.length_append];omega
   obtain⟨L,hL⟩:∃L,kU l'++gh tl.aF d=L:=⟨_,rfl⟩
   rw[hL]at b3 bu GB
   have Na:=(lK tl.aF d).2
   have Qx:=dw (i:=T) (n:=st_b.next) (by omega)
   have Je:=dw RU
   have tU:=dw (i:=⟨115004002,s0.next+1⟩) (n:=st_b.next) (by(try dsimp only);omega)
   by_cases hd:(d:Int)<4
   ·have eL:∀{e:Env} {gg:Rows} {nx:Nat},(e 20=.int .i64 (IntKind.i64.wrap ((d:Int)+1)))->(gg ⟨115004002,s0.next+1⟩=some ⟨true,2,[aa tl.aF]⟩)->((∃u:Id,e 3=.own u 0 (kU l'++gh tl.aF (d+1)).length/\gg u=some ⟨true,2,(kU l'++gh tl.aF (d+1)).map aa⟩/\s0.next+2<=u.aZ/\u.aZ<nx)/\s0.next+3<=nx/\(∀y:Id,y.aZ<σ.next->y≠T->gg y=σ.get y)/\gg T=some ⟨false,mP.nA,ts.map ad⟩)->∃m0,m0<(4)-d/\∃d:Nat,m0=(4)-d/\d<=(4)/\e 20=.int .i64 (d:Int)/\gg ⟨115004002,s0.next+1⟩=some ⟨true,2,[aa tl.aF]⟩/\((∃u:Id,e 3=.own u 0 (kU l'++gh tl.aF d).length/\gg u=some ⟨true,2,(kU l'++gh tl.aF d).map aa⟩/\s0.next+2<=u.aZ/\u.aZ<nx)/\s0.next+3<=nx/\(∀y:Id,y.aZ<σ.next->y≠T->gg y=σ.get y)/\gg T=some ⟨false,mP.nA,ts.map ad⟩):=fun x1 x2 x3=>⟨_,by omega,d+1,rfl,by omega,(by rw[x1,ax (by omega)]),x2,x3⟩
    have dc:=vZ tl.aF d (jg (by omega)) hxx LQ
    have rF:=j7 (bJ tl.aF d)
    have CQ:(L.map aa).length=L.length:=by simp
    cases hpd:r8 (bJ tl.aF d)
    ·rw[hpd]at rF
     have iU:kU l'++gh tl.aF (d+1)=L:=by rw[gh,hpd];exact hL
     (repeat(first|((repeat(revert hN;revert N;apply Pn.out));refine wk (tw @pk (tw @bg0 (tw @b4 (tw @b3 (tw @hd (tw @tU @aa.eq_1)))))) ?_;(repeat(refine Pn.mk ?_;intro N hN)))|((try apply Or.inl);refine⟨_,ao.x (dc) (sd (tw @pk (tw @bg0 (tw @b4 (tw @b3 (tw @hd (tw @tU @aa.eq_1))))))),?_⟩;refine hN _ _ ?_;clear hN N)|((try apply Or.inl);refine⟨_,ao.x (rF) (sd (tw @pk (tw @bg0 (tw @b4 (tw @b3 (tw @hd (tw @tU @aa.eq_1))))))),?_⟩;refine hN _ _ ?_;clear hN N)))
     refine eL ?_ ?_ (by(try dsimp only);exact⟨⟨u,by rw[iU];simp only[go_sem, ↓reduceIte,Nat.reduceEqDiff,Nat.reduceAdd,Nat.reduceSub,Nat.reduceLeDiff,reduceCtorEq,b3],by rw[iU];simp only[go_sem, ↓reduceIte,Nat.reduceEqDiff,Nat.reduceAdd,Nat.reduceSub,Nat.reduceLeDiff,reduceCtorEq,bu,Je],by omega,by omega⟩,by omega,fun y hy FB=>by
      have h1:=dw (i:=y) (n:=st_b.next) (by omega)
      have h2:=ej y hy FB
      simp only[go_sem, ↓reduceIte,Nat.reduceEqDiff,Nat.reduceAdd,Nat.reduceSub,Nat.reduceLeDiff,reduceCtorEq,h1,h2],sd (tw @Qx @bT)⟩)
     all_goals simp only[go_sem, ↓reduceIte,Nat.reduceEqDiff,Nat.reduceAdd,Nat.reduceSub,Nat.reduceLeDiff,reduceCtorEq,pk,bg0,b4,tU,aa]
    ·rw[hpd]at rF
     have iU:kU l'++gh tl.aF (d+1)=L++[bJ tl.aF d]:=by rw[gh,hpd,if_pos rfl,<-hL,List.append_assoc]
     have GG:(L++[bJ tl.aF d]).length=L.length+1:=by rw[List.length_append];rfl
     have z6:(L++[bJ tl.aF d]).map aa=L.map aa++[aa (bJ tl.aF d)]:=by simp
     have uT:=dm (a:=T) (b:=u) (by omega)
     have ux:=dm (a:=⟨115004002,s0.next+1⟩) (b:=u) (by(try dsimp only);omega)
     (repeat(first|((repeat(revert hN;revert N;apply Pn.out));refine wk (tw @pk (tw @bg0 (tw @b4 (tw @b3 (tw @bu (tw @hd (tw @Je (tw @tU (tw @ux (tw @CQ (tw @GB @aa.eq_1))))))))))) ?_;(repeat(refine Pn.mk ?_;intro N hN)))|((try apply Or.inl);refine⟨_,ao.x (dc) (sd (tw @pk (tw @bg0 (tw @b4 (tw @b3 (tw @bu (tw @hd (tw @Je (tw @tU (tw @ux (tw @CQ (tw @GB @aa.eq_1)))))))))))),?_⟩;refine hN _ _ ?_;clear hN N)|((try apply Or.inl);refine⟨_,ao.x (rF) (sd (tw @pk (tw @bg0 (tw @b4 (tw @b3 (tw @bu (tw @hd (tw @Je (tw @tU (tw @ux (tw @CQ (tw @GB @aa.eq_1)))))))))))),?_⟩;refine hN _ _ ?_;clear hN N)))
     refine eL ?_ ?_ (by(try dsimp only);exact⟨⟨⟨115011003,st_b.next+1+1+1+1⟩,by rw[iU,GG];simp only[go_sem, ↓reduceIte,Nat.reduceEqDiff,Nat.reduceAdd,Nat.reduceSub,Nat.reduceLeDiff,reduceCtorEq],by rw[iU,z6];simp only[go_sem, ↓reduceIte,Nat.reduceEqDiff,Nat.reduceAdd,Nat.reduceSub,Nat.reduceLeDiff,reduceCtorEq,aa],by(try dsimp only);omega,by(try dsimp only);omega⟩,by omega,fun y hy FB=>by
      have h1:=dw (i:=y) (n:=st_b.next) (by omega)
      have h2:=ej y hy FB
      have h3:=dm (a:=y) (b:=u) (by omega)
      simp only[go_sem, ↓reduceIte,Nat.reduceEqDiff,Nat.reduceAdd,Nat.reduceSub,Nat.reduceLeDiff,reduceCtorEq,h1,h2,h3],sd (tw @Qx (tw @uT @bT))⟩)
     all_goals simp only[go_sem, ↓reduceIte,Nat.reduceEqDiff,Nat.reduceAdd,Nat.reduceSub,Nat.reduceLeDiff,reduceCtorEq,pk,bg0,b4,tU,ux,aa]
   ·have HK:d=4:=by omega
    subst HK
    (try((repeat(revert hN;revert N;apply Pn.out));refine wk (tw @pk (tw @bg0 (tw @b4 @hd))) ?_;(repeat(refine Pn.mk ?_;intro N hN))))
    exact⟨l'++[tl],by rw[List.map_append];rfl,.inr ⟨u,by rw[qn,hL];simp only[go_sem, ↓reduceIte,Nat.reduceEqDiff,Nat.reduceAdd,Nat.reduceSub,Nat.reduceLeDiff,reduceCtorEq,b3],by rw[qn,hL];exact bu,by omega,by(try dsimp only);omega⟩,by(try dsimp only);omega,ej,bT⟩
 ·rintro pre e0 s0 hp ⟨l',rfl,hout,GF,jq,hT⟩ hK
  clear hK
  have JC:=ze hp
  have PQ:=hp.length_eq
  simp only[List.length_map]at PQ
  have AJ:=hF.sH
  rcases hout with⟨AM,e3⟩|⟨o,e3,og,on,ov⟩
  ·exfalso
   subst AM
   exact h0 (List.eq_nil_of_length_eq_zero PQ.symm)
  have hq:∀x,x∈qs↔x∈kU l':=fun x=>by
   rw[hm,tQ,tQ]
   constructor<;>(rintro⟨t,ht,h⟩;exact⟨t,by first|exact(JC t).1 ht|exact(JC t).2 ht,h⟩)
  have OI:kU l'≠[]:=by
   intro e
   cases l' with
   |nil=>exact h0 (List.eq_nil_of_length_eq_zero PQ.symm)
   |cons t r=>
    have:t.aF∈kU (t::r):=tQ.2 ⟨t,by simp,.inl rfl⟩
    rw[e]at this;cases this
  have Jt:=tu l'
  (try((repeat(revert hN;revert N;apply Pn.out));refine wk (tw @zI.eq_1 (tw @zK.eq_1 @e3)) ?_;(repeat(refine Pn.mk ?_;intro N hN))))
  refine .inr (aV _ _ _ _ _ (fun r σ1 hq=>?_) (w5 (kU l') qs (by omega) OI hR hq ⟨s0.get,_⟩ o (by(try dsimp only);omega) og))
  obtain⟨g1,x1⟩:=σ1
  obtain⟨o2,X,rfl,q1,q2,q3,q4⟩:=hq
  (try dsimp only at q1 q2 q3 q4)
  refine hN _ _ ?_
  clear hN N
  (try((repeat(revert hN;revert N;apply Pn.out));refine wk (tw @zI.eq_1 @zK.eq_1) ?_;(repeat(refine Pn.mk ?_;intro N hN))))
  exact gK (.inl rfl) (vs:=[.own o2 0 qs.length]) (by rw[zK];simp only[e5,gV,go_sem, ↓reduceIte,Nat.reduceEqDiff,Nat.reduceAdd,Nat.reduceSub,Nat.reduceLeDiff,reduceCtorEq]) ⟨o2,X,rfl,q1,by omega,by(try dsimp only);omega,by(try dsimp only);omega,fun y hy FB=>(q4 y (by omega)).trans (jq y hy FB),(q4 T (by have:=h.tv;omega)).trans hT⟩
end Go.Proofs.YtgoelphibofcmaaGreat.V

namespace Go.Proofs.YtgoelphibofcmaaGreat.V
open Go.RowKit
attribute [local irreducible] dD wpOps gI Call
attribute [local go_sem] aK fW eU gE gy cE upd ck K.av cN AV.cells AV.cell rowOf rowsOf part ld rowAt bB bY dO ev iI bK db eI gr e8 dx eB cZ cY ea ec bQ aY cQ bP cU cR ez eC eA cP bV da ew bL aL cW cF iH bz cK bR aU dh aT dP AV.undef bF bG eh eu dX dY cI eH eK cD eE eD cV cX List.getD_cons_zero List.getD_cons_succ List.getD_nil List.all_cons List.all_nil Bool.and_true Bool.true_and Bool.and_self Bool.not_true Bool.not_false Option.map_some Option.map_none Option.bind_some Option.bind_none List.length_cons List.length_nil List.take_succ_cons List.take_zero List.take_nil List.drop_succ_cons List.drop_zero List.drop_nil List.head?_cons List.map_cons List.map_nil List.getElem?_cons_zero List.getElem?_cons_succ List.cons_append List.nil_append List.append_nil List.length_map List.set_cons_zero List.set_cons_succ Nat.reduceMul eq_self Int.toNat_natCast Int.natCast_nonneg and_self true_and and_true decide_true decide_false Bool.false_eq_true Nat.zero_add Nat.add_zero List.contains_cons List.contains_nil Bool.or_false Bool.false_or beq_self_eq_true Nat.reduceBEq ne_eq not_true_eq_false not_false_eq_true Id.mk.injEq false_and and_false Nat.reduceLT Int.reduceLE Int.reduceLT Int.reduceToNat Int.reduceNeg Int.reduceAdd Nat.le_refl List.length_append beq_true beq_false Bool.not_eq_eq_eq_not or_false false_or dQ aj aq aH bd bE cm aW bc aN bf cL bU
noncomputable def fb (s:aB) (l:List ae) (x:ai):Bool:=decide (0<=fH l x)&&decide (fH s.bh.ah x=fH l x)
theorem Fi:On aa (fun c=>.agg (aa c)) 2 true:=⟨fun _=>rfl,fun _=>rfl,fun x g=>by simp only[aa,aj,aq,bc,aH,Option.map_some]⟩
theorem BQ (s:aB) (hS:jx s.aC s.bh.ah) (l:List ae) (hA:gQ l) (x:ai):ao Tryz.prog 116 [.agg (aa x),.cr [.sl (l.map ad)],.cr (au s)] (.bool (fb s l x)):=by
 refine ao.body eG rfl fun hl n0=>?_
 clear hl
 have h1:=JN l x hA.F9 (by have:=hA.sH;omega)
 have h2:=JN s.bh.ah x hS.1.F9 (by have:=hS.1.sH;omega)
 by_cases h0:0<=fH l x
 ·(repeat(first|((repeat(revert hN;revert N;apply Pn.out));refine wk (tw @h0 (tw @au.eq_1 @aa.eq_1)) ?_;(repeat(refine Pn.mk ?_;intro N hN)))|((try apply Or.inl);refine⟨_,ao.x (h1) (sd (tw @h0 (tw @au.eq_1 @aa.eq_1))),?_⟩;refine hN _ _ ?_;clear hN N)|((try apply Or.inl);refine⟨_,ao.x (h2) (sd (tw @h0 (tw @au.eq_1 @aa.eq_1))),?_⟩;refine hN _ _ ?_;clear hN N)))
  exact aI (b:=decide (fH s.bh.ah x=fH l x)) (.inl rfl) (sd @Nat.zero_add) (by simp[fb,h0])
 ·(repeat(first|((repeat(revert hN;revert N;apply Pn.out));refine wk (tw @h0 (tw @au.eq_1 @aa.eq_1)) ?_;(repeat(refine Pn.mk ?_;intro N hN)))|((try apply Or.inl);refine⟨_,ao.x (h1) (sd (tw @h0 (tw @au.eq_1 @aa.eq_1))),?_⟩;refine hN _ _ ?_;clear hN N)|((try apply Or.inl);refine⟨_,ao.x (h2) (sd (tw @h0 (tw @au.eq_1 @aa.eq_1))),?_⟩;refine hN _ _ ?_;clear hN N)))
  exact aI (b:=false) (.inl rfl) (sd @Nat.zero_add) (by simp[fb,h0])
theorem FC (s:aB) (hS:jx s.aC s.bh.ah) (l:List ae) (hA:gQ l) (ps:List ai) (hl:ps.length<=1048576):ao Tryz.prog 171 [.sl (ps.map aa),.fn 116 [.cr [.sl (l.map ad)],.cr (au s)]] (.int .i64 (im (fb s l) ps)):=
 n9 Fi (show ns Tryz.prog 171=some (pV 171 2 true) by kernel_rfl) ps hl 116 _ _ (fun x _=>BQ s hS l hA x) fun g=>by simp only[aj,aq,aN,Option.map_some]
def ei (p:ai->Bool) (l:List ai):List ai:=l.filter fun x=> !p x
theorem FJ (p:ai->Bool) (l:List ai):(ei p l).length<=l.length:=List.length_filter_le _ _
theorem pY {p:ai->Bool} {l:List ai} {j:Nat} (hj:j<l.length):ei p (l.take (j+1))=ei p (l.take j)++if p l[j]=true then[]else[l[j]]:=by
 unfold ei
 rw[List.take_succ_eq_append_getElem hj,List.filter_append]
 congr 1
 cases h:p l[j]<;>simp[h]
theorem uV {p:ai->Bool} {l:List ai} (h:∀b∈l,p b=false):ei p l=l:=by
 unfold ei
 rw[List.filter_eq_self]
 intro b hb
 rw[h b hb];rfl
structure Gz (p:ai->Bool) (bs:List ai) (j:Nat) (R:List ai):Prop where
 len:R.length=bs.length
 pre:R.take (ei p (bs.take j)).length=ei p (bs.take j)
 post:∀x,j<=x->R[x]? =bs[x]?
 lt:(ei p (bs.take j)).length<j
theorem Gz.start {p:ai->Bool} {bs:List ai} {i:Nat} (hi:i<bs.length) (hw:p bs[i]=true) (hp:∀x (h:x<i),p bs[x]=false):Gz p bs (i+1) bs/\(ei p (bs.take (i+1))).length=i:=by
 have h1:ei p (bs.take i)=bs.take i:=uV fun b hb=>by
  obtain⟨x,hx,rfl⟩:=List.getElem_of_mem hb
  rw[List.length_take]at hx
  rw[List.getElem_take]
  exact hp x (by omega)
 have h2:ei p (bs.take (i+1))=bs.take i:=by rw[pY hi,if_pos hw,List.append_nil,h1]
 have h3:(bs.take i).length=i:=by rw[List.length_take];omega
 exact⟨⟨rfl,by rw[h2,h3],fun _ _=>rfl,by rw[h2,h3];omega⟩,by rw[h2,h3]⟩
theorem Gz.N4 {p:ai->Bool} {bs R:List ai} {j:Nat} (h:Gz p bs j R) (hj:j<bs.length) (hw:p bs[j]=true):Gz p bs (j+1) R/\(ei p (bs.take (j+1))).length=(ei p (bs.take j)).length:=by
 have h2:ei p (bs.take (j+1))=ei p (bs.take j):=by rw[pY hj,if_pos hw,List.append_nil]
 exact⟨⟨h.len,by rw[h2];exact h.pre,fun x hx=>h.post x (by omega),by rw[h2];have:=h.lt;omega⟩,by rw[h2]⟩
theorem Gz.pg {p:ai->Bool} {bs R:List ai} {j:Nat} (h:Gz p bs j R) (hj:j<bs.length) (hw:p bs[j]=false):Gz p bs (j+1) (R.set (ei p (bs.take j)).length bs[j])/\(ei p (bs.take (j+1))).length=(ei p (bs.take j)).length+1:=by
 have h2:ei p (bs.take (j+1))=ei p (bs.take j)++[bs[j]]:=by rw[pY hj,hw];rfl
 have dz:=h.lt
 have hlen:=h.len
 have pe:=h.pre
 generalize hc:(ei p (bs.take j)).length=c at *
 refine⟨⟨by rw[List.length_set];exact hlen,?_,fun x hx=>?_,by rw[h2,List.length_append,hc];simp;omega⟩,by rw[h2,List.length_append,hc];rfl⟩
 ·rw[h2,List.length_append,hc,List.length_singleton,List.take_succ_eq_append_getElem (by rw[List.length_set];omega),List.getElem_set_self,List.take_set_of_le (Nat.le_refl _),pe]
 ·rw[List.getElem?_set_ne (by omega)];exact h.post x (by omega)
theorem Gz.at_ {p:ai->Bool} {bs R:List ai} {j:Nat} (h:Gz p bs j R) (hj:j<bs.length):(R.map aa)[j]? =some (aa bs[j]):=by
 rw[List.getElem?_map,h.post j (Nat.le_refl j),List.getElem?_eq_getElem hj];rfl
theorem Ct {p:ai->Bool} {bs:List ai} (h:¬0<=im p bs):∀b∈bs,p b=false:=by
 intro b hb
 unfold im at h
 split at h
 ·omega
 ·rename_i h1
  rw[List.findIdx_lt_length]at h1
  cases hp:p b
  ·rfl
  ·exact absurd ⟨b,hb,hp⟩ h1
theorem Cu {p:ai->Bool} {bs:List ai} (h:0<=im p bs):∃i,∃hi:i<bs.length,im p bs=(i:Int)/\p bs[i]=true/\∀x (hx:x<i),p (bs[x]'(by omega))=false:=by
 unfold im at h ⊢
 split
 ·rename_i h1
  exact⟨bs.findIdx p,h1,rfl,List.findIdx_getElem,fun x hx=>by simpa using List.not_of_lt_findIdx hx⟩
 ·rename_i h1;rw[if_neg h1]at h;omega
end Go.Proofs.YtgoelphibofcmaaGreat.V

namespace Go.Proofs.YtgoelphibofcmaaGreat.V
open Go.RowKit
attribute [local irreducible] dD wpOps gI Call
attribute [local go_sem] aK fW eU gE gy cE upd ck K.av cN AV.cells AV.cell rowOf rowsOf part ld rowAt bB bY dO ev iI bK db eI gr e8 dx eB cZ cY ea ec bQ aY cQ bP cU cR ez eC eA cP bV da ew bL aL cW cF iH bz cK bR aU dh aT dP AV.undef bF bG eh eu dX dY cI eH eK cD eE eD cV cX List.getD_cons_zero List.getD_cons_succ List.getD_nil List.all_cons List.all_nil Bool.and_true Bool.true_and Bool.and_self Bool.not_true Bool.not_false Option.map_some Option.map_none Option.bind_some Option.bind_none List.length_cons List.length_nil List.take_succ_cons List.take_zero List.take_nil List.drop_succ_cons List.drop_zero List.drop_nil List.head?_cons List.map_cons List.map_nil List.getElem?_cons_zero List.getElem?_cons_succ List.cons_append List.nil_append List.append_nil List.length_map List.set_cons_zero List.set_cons_succ Nat.reduceMul eq_self Int.toNat_natCast Int.natCast_nonneg and_self true_and and_true decide_true decide_false Bool.false_eq_true Nat.zero_add Nat.add_zero List.contains_cons List.contains_nil Bool.or_false Bool.false_or beq_self_eq_true Nat.reduceBEq ne_eq not_true_eq_false not_false_eq_true Id.mk.injEq false_and and_false Nat.reduceLT Int.reduceLE Int.reduceLT Int.reduceToNat Int.reduceNeg Int.reduceAdd Nat.le_refl List.length_append beq_true beq_false Bool.not_eq_eq_eq_not or_false false_or dQ aj aq aH bd bE cm aW bc aN bf cL bU
structure mO (n:Nat) (px:Nat->Option Nat) (L:Nat->Nat):Prop where
 top:∀k,k<n->px k=none->L k=k
 up:∀k j,k<n->px k=some j->j<k/\L j=L k
theorem mO.root {n:Nat} {px:Nat->Option Nat} {L:Nat->Nat} (h:mO n px L) (hL:jt L) {k:Nat} (hk:k<n) (hr:L k=k):px k=none:=by
 rcases hp:px k with _|j
 ·rfl
 ·obtain⟨h1,h2⟩:=h.up k j hk hp
  have:=hL.le j
  omega
theorem mO.start (n:Nat):mO n (fun _=>none) id:=⟨fun _ _ _=>rfl,fun _ _ _ h=>by cases h⟩
theorem mO.join {n:Nat} {px:Nat->Option Nat} {L:Nat->Nat} (h:mO n px L) (hL:jt L) (b:PB) (dz:min (L b.a) (L b.b)<max (L b.a) (L b.b)):mO n (fun k=>if k=max (L b.a) (L b.b)then some (min (L b.a) (L b.b))else px k) (er L b):=by
 have ha:=hL.idem b.a
 have hb:=hL.idem b.b
 have yT:L (min (L b.a) (L b.b))=min (L b.a) (L b.b):=by
  rcases Nat.le_total (L b.a) (L b.b)with h|h
  ·rw[Nat.min_eq_left h,ha]
  ·rw[Nat.min_eq_right h,hb]
 have PS:L (max (L b.a) (L b.b))=max (L b.a) (L b.b):=by
  rcases Nat.le_total (L b.a) (L b.b)with h|h
  ·rw[Nat.max_eq_right h,hb]
  ·rw[Nat.max_eq_left h,ha]
 unfold er
 generalize min (L b.a) (L b.b)=lo at *
 generalize max (L b.a) (L b.b)=hi at *
 refine⟨fun k hk hp=>?_,fun k j hk hp=>?_⟩
 ·by_cases JA:k=hi
  ·rw[if_pos JA]at hp;cases hp
  ·rw[if_neg JA]at hp
   have:=h.top k hk hp
   rw[if_neg (by omega)];exact this
 ·by_cases JA:k=hi
  ·rw[if_pos JA]at hp
   cases hp
   subst JA
   exact⟨dz,by rw[if_neg (by omega),if_pos PS,yT]⟩
  ·rw[if_neg JA]at hp
   obtain⟨h1,h2⟩:=h.up k j hk hp
   exact⟨h1,by rw[h2]⟩
theorem y4 {L:Nat->Nat} {b:PB} (h:L b.a=L b.b):er L b=L:=by
 funext k
 unfold er
 rw[h,Nat.max_self,Nat.min_self]
 split
 ·rename_i h;exact h.symm
 ·rfl
def rP (G:Nat->Id) (px:Nat->Option Nat) (k:Nat):List AV:=[match px k with|none=>.gj|some j=>.ptr (G j) 0 0,.int .i64 (k:Int)]
def s9 (g:Rows) (G:Nat->Id) (n:Nat) (px:Nat->Option Nat):Prop:=∀k,k<n->g (G k)=some ⟨true,2,[rP G px k]⟩
theorem s9.frame {g g':Rows} {G:Nat->Id} {n:Nat} {px:Nat->Option Nat} (h:s9 g G n px) (hf:∀k,k<n->g' (G k)=g (G k)):s9 g' G n px:=fun k hk=>(hf k hk).trans (h k hk)
theorem lj {G:Nat->Id} {px:Nat->Option Nat} {k:Nat} (h:px k=none):rP G px k=[.gj,.int .i64 (k:Int)]:=by rw[rP,h]
theorem sN {G:Nat->Id} {px:Nat->Option Nat} {k j:Nat} (h:px k=some j):rP G px k=[.ptr (G j) 0 0,.int .i64 (k:Int)]:=by rw[rP,h]
theorem yF (G:Nat->Id) (n:Nat) (px:Nat->Option Nat) (L:Nat->Nat) (h:mO n px L) (k:Nat) (hk:k<n) (σ:ar) (hG:s9 σ.get G n px):
  Call Tryz.prog 262 [.ptr (G k) 0 0] σ fun r σ'=>r=.ptr (G (L k)) 0 0/\σ'.get=σ.get/\σ.next<=σ'.next:=by
 refine gW eG rfl fun hl=>?_
 clear hl
 (try((repeat(revert hN;revert N;apply Pn.out));refine wk @Nat.zero_add ?_;(repeat(refine Pn.mk ?_;intro N hN))))
 refine aJ (fun m env st=>∃j:Nat,m=j/\j<n/\env 0=.ptr (G j) 0 0/\L j=L k/\st.get=σ.get/\σ.next<=st.next) k ⟨k,rfl,hk,sd @Nat.zero_add,rfl,by(try dsimp only),by(try dsimp only);omega⟩ ?_
 rintro m env_b st_b ⟨j,rfl,hj,b0,hLj,hg,hle⟩ ej
 clear ej
 have fA:=hG m hj
 rcases hp:px m with _|j
 ·rw[lj hp]at fA
  (try((repeat(revert hN;revert N;apply Pn.out));refine wk (tw @b0 (tw @hg @fA)) ?_;(repeat(refine Pn.mk ?_;intro N hN))))
  exact gK (.inl rfl) (vs:=[.ptr (G m) 0 0]) (sd @Nat.zero_add) ⟨by rw[<-hLj,h.top m hj hp];rfl,by first|trivial|rfl|exact hg,by(try dsimp only);omega⟩
 ·rw[sN hp]at fA
  obtain⟨h1,h2⟩:=h.up m j hj hp
  (try((repeat(revert hN;revert N;apply Pn.out));refine wk (tw @b0 (tw @hg @fA)) ?_;(repeat(refine Pn.mk ?_;intro N hN))))
  exact⟨j,h1,j,rfl,by omega,sd @Nat.zero_add,by omega,by first|trivial|rfl|exact hg,by(try dsimp only);omega⟩
end Go.Proofs.YtgoelphibofcmaaGreat.V

namespace Go.Proofs.YtgoelphibofcmaaGreat.V
open Go.RowKit
attribute [local irreducible] dD wpOps gI Call
attribute [local go_sem] aK fW eU gE gy cE upd ck K.av cN AV.cells AV.cell rowOf rowsOf part ld rowAt bB bY dO ev iI bK db eI gr e8 dx eB cZ cY ea ec bQ aY cQ bP cU cR ez eC eA cP bV da ew bL aL cW cF iH bz cK bR aU dh aT dP AV.undef bF bG eh eu dX dY cI eH eK cD eE eD cV cX List.getD_cons_zero List.getD_cons_succ List.getD_nil List.all_cons List.all_nil Bool.and_true Bool.true_and Bool.and_self Bool.not_true Bool.not_false Option.map_some Option.map_none Option.bind_some Option.bind_none List.length_cons List.length_nil List.take_succ_cons List.take_zero List.take_nil List.drop_succ_cons List.drop_zero List.drop_nil List.head?_cons List.map_cons List.map_nil List.getElem?_cons_zero List.getElem?_cons_succ List.cons_append List.nil_append List.append_nil List.length_map List.set_cons_zero List.set_cons_succ eq_self Int.toNat_natCast Int.natCast_nonneg and_self true_and and_true decide_true decide_false Bool.false_eq_true Nat.zero_add Nat.add_zero List.contains_cons List.contains_nil Bool.or_false Bool.false_or beq_self_eq_true ne_eq not_true_eq_false not_false_eq_true Id.mk.injEq false_and and_false Nat.le_refl List.length_append beq_true beq_false Bool.not_eq_eq_eq_not or_false false_or dQ aj aq aH bd bE cm aW bc aN bf cL bU
abbrev mI:MK:=⟨false,[.tI]⟩
def rX (l:List (Nat×Nat)):List (List AV):=l.map fun p=>[.int .i64 (p.1:Int),.int .i64 (p.2:Int)]
theorem A4 (r:Nat):∀(l:List (Nat×Nat)) (i:Nat),((∀p∈l,p.1≠r)->fN mI [.int .i64 (r:Int)] (rX l) i=some none)/\(∀j v,l[j]? =some (r,v)->(∀x y,x<j->l[x]? =some y->y.1≠r)->fN mI [.int .i64 (r:Int)] (rX l) i=some (some (i+j)))
 |[],i=>⟨fun _=>rfl,fun j v h=>by simp at h⟩
 |p::l,i=>by
  obtain⟨h1,h2⟩:=A4 r l (i+1)
  by_cases h:p.1=r
  ·refine⟨fun hp=>absurd h (hp p (by simp)),fun j v hj hf=>?_⟩
   have hj0:j=0:=by
    rcases Nat.eq_zero_or_pos j with h0|h0
    ·exact h0
    ·exact absurd h (hf 0 p h0 (by simp))
   subst hj0
   simp[rX,fN,e8,gr,MK.ks,h]
  ·have hd:¬((r:Int)=(p.1:Int)):=by omega
   have tk:¬r=p.1:=fun he=>h he.symm
   have step:fN mI [.int .i64 (r:Int)] (rX (p::l)) i=fN mI [.int .i64 (r:Int)] (rX l) (i+1):=by
    unfold rX
    simp[fN,MK.ks,e8,gr,hd,tk,h]
   rw[step]
   refine⟨fun hp=>h1 fun q hq=>hp q (by simp[hq]),fun j v hj hf=>?_⟩
   cases j with
   |zero=>simp at hj;rw[hj]at h;exact absurd rfl h
   |succ j=>
    rw[h2 j v (by simpa using hj) fun x y hx hy=>hf (x+1) y (by omega) (by simpa using hy)]
    congr 2;omega
theorem xK {r:Nat} {l:List (Nat×Nat)}:((∀p∈l,p.1≠r)->fE mI (.int .i64 (r:Int)) (rX l)=some none)/\(∀j v,l[j]? =some (r,v)->(∀x y,x<j->l[x]? =some y->y.1≠r)->fE mI (.int .i64 (r:Int)) (rX l)=some (some j)):=by
 have e:fE mI (.int .i64 (r:Int)) (rX l)=fN mI [.int .i64 (r:Int)] (rX l) 0:=by
  unfold fE
  rw[if_pos ⟨rfl,rfl,rfl⟩];rfl
 obtain⟨h1,h2⟩:=A4 r l 0
 rw[e]
 exact⟨h1,fun j v hj hf=>by rw[h2 j v hj hf,Nat.zero_add]⟩
def kD (k:Nat) (L:Nat->Nat):List (List AV):=rX (leads k L).zipIdx
theorem C8 {k:Nat} {L:Nat->Nat} (h:L k=k):kD (k+1) L=kD k L++[[.int .i64 (k:Int),.int .i64 ((leads k L).length:Int)]]:=by
 unfold kD
 rw[gG,if_pos h,List.zipIdx_append]
 simp[rX]
theorem C7 {k:Nat} {L:Nat->Nat} (h:L k≠k):kD (k+1) L=kD k L:=by
 unfold kD
 rw[gG,if_neg h,List.append_nil]
theorem FV {k:Nat} {L:Nat->Nat} (h:L k=k):fE mI (.int .i64 (k:Int)) (kD k L)=some none:=by
 refine xK.1 fun p hp=>?_
 have:=List.fst_mem_of_mem_zipIdx hp
 have:=(xQ.1 this).1
 omega
theorem xP {n:Nat} {L:Nat->Nat} {x y:Nat} (hx:x<(leads n L).length) (hy:y<(leads n L).length) (h:(leads n L)[x]=(leads n L)[y]):x=y:=by
 have hp:=List.pairwise_iff_getElem.1 (sS n L)
 rcases Nat.lt_trichotomy x y with dz|he|dz
 ·exact absurd h (hp x y hx hy dz)
 ·exact he
 ·exact absurd h.symm (hp y x hy hx dz)
theorem xO {k:Nat} {L:Nat->Nat} (hL:jt L) (h:L k≠k):fE mI (.int .i64 (L k:Int)) (kD k L)=some (some (br L k))/\(kD k L)[br L k]? =some [.int .i64 (L k:Int),.int .i64 (br L k:Int)]/\br L k<(leads k L).length:=by
 have dz:L k<k:=Nat.lt_of_le_of_ne (hL.le k) h
 have hn:br L (L k)=br L k:=by rw[br,hL.idem,br]
 have hg:=oJ hL dz
 rw[hn,hL.idem]at hg
 have hl:br L k<(leads k L).length:=(List.getElem?_eq_some_iff.1 hg).1
 have hz:(leads k L).zipIdx[br L k]? =some (L k,br L k):=by simp[List.getElem?_zipIdx,hg]
 refine⟨xK.2 _ _ hz fun x y hx hy=>?_,by unfold kD rX;rw[List.getElem?_map,hz];rfl,hl⟩
 intro he
 rw[List.getElem?_zipIdx]at hy
 have OS:x<(leads k L).length:=by omega
 rw[List.getElem?_eq_getElem OS]at hy
 simp at hy
 rw[<-hy]at he
 simp at he
 have e2:(leads k L)[br L k]=L k:=(List.getElem?_eq_some_iff.1 hg).2
 have:=xP OS hl (he.trans e2.symm)
 omega
def jy (k:Nat) (L:Nat->Nat):List (List Nat):=(leads k L).map (members k L)
theorem pQ (k:Nat) (L:Nat->Nat):(jy k L).length=(leads k L).length:=by simp[jy]
theorem CE {k:Nat} {L:Nat->Nat} (hL:jt L) (h:L k=k):jy (k+1) L=jy k L++[[k]]:=by
 unfold jy
 rw[gG,if_pos h,List.map_append,List.map_cons,List.map_nil,ji,if_pos h,mA hL (Nat.le_refl k),List.nil_append]
 congr 1
 refine List.map_congr_left fun r hr=>?_
 have:=(xQ.1 hr).1
 rw[ji,if_neg (by omega),List.append_nil]
theorem CF {k:Nat} {L:Nat->Nat} (hL:jt L) (h:L k≠k):(jy k L)[br L k]? =some (members k L (L k))/\jy (k+1) L=(jy k L).set (br L k) (members k L (L k)++[k]):=by
 obtain⟨_,_,hl⟩:=xO hL h
 have dz:L k<k:=Nat.lt_of_le_of_ne (hL.le k) h
 have hg:=oJ hL dz
 have hn:br L (L k)=br L k:=by rw[br,hL.idem,br]
 rw[hn,hL.idem]at hg
 refine⟨by unfold jy;rw[List.getElem?_map,hg];rfl,?_⟩
 unfold jy
 rw[gG,if_neg h,List.append_nil]
 refine List.ext_getElem? fun i=>?_
 rw[List.getElem?_set,List.getElem?_map,List.length_map]
 by_cases hi:br L k=i
 ·subst hi
  rw[if_pos rfl,if_pos hl,hg,Option.map_some,ji,if_pos rfl]
 ·rw[if_neg hi,List.getElem?_map]
  rcases hr:(leads k L)[i]? with _|r
  ·rfl
  ·rw[Option.map_some,Option.map_some,ji,if_neg,List.append_nil]
   rintro rfl
   obtain⟨ly,he⟩:=List.getElem?_eq_some_iff.1 hr
   have e2:(leads k L)[br L k]=L k:=(List.getElem?_eq_some_iff.1 hg).2
   exact hi (xP hl ly (e2.trans he.symm))
theorem Bh (k:Nat) (L:Nat->Nat) (r:Nat):(members k L r).length<=k:=by
 have:=List.length_filter_le (fun x=>L x==r) (List.range k)
 simpa[members]using this
def ET (g:Rows) (o:Id) (L:List (List Nat)) (nx:Nat):Prop:=∃rows ids,g o=some ⟨true,1,rows⟩/\eR Oq g rows L ids/\ids.Nodup/\(∀i∈ids,i.site=240026008/\i.aZ<nx)/\o.site=240025002/\o.aZ<nx
theorem ET.frame {g g':Rows} {o:Id} {L:List (List Nat)} {nx tR:Nat} (h:ET g o L nx) (hn:nx<=tR) (hf:∀i:Id,(i.site=240026008∨i.site=240025002)->i.aZ<nx->g' i=g i):ET g' o L tR:=by
 obtain⟨rows,ids,h1,h2,h3,h4,h5,h6⟩:=h
 exact⟨rows,ids,(hf o (.inr h5) h6).trans h1,h2.frame KD fun i hi=>hf i (.inl (h4 i hi).1) (h4 i hi).2,h3,fun i hi=>⟨(h4 i hi).1,by have:=(h4 i hi).2;omega⟩,h5,by omega⟩
theorem J2 {g':Rows} {v v' tR j:Nat} (h1:g' ⟨240025002,v⟩=some ⟨true,1,[[.own ⟨240026008,v'⟩ 0 1]]⟩) (h2:g' ⟨240026008,v'⟩=some ⟨true,1,[eN j]⟩) (hv:v<tR) (nw:v'<tR):ET g' ⟨240025002,v⟩ [[j]] tR:=
 ⟨_,[⟨240026008,v'⟩],h1,.one ⟨_,rfl,h2,rfl⟩,by simp,fun i hi=>by rw[List.mem_singleton.1 hi];exact⟨rfl,nw⟩,rfl,hv⟩
theorem ET.new {g:Rows} {o:Id} {L:List (List Nat)} {nx:Nat} (h:ET g o L nx) (j:Nat):∃rows,g o=some ⟨true,1,rows⟩/\rows.length=L.length/\∀(g':Rows) (v v' tR:Nat),nx<=v'->v<tR->v'<tR->g' ⟨240025002,v⟩=some ⟨true,1,rows++[[.own ⟨240026008,v'⟩ 0 1]]⟩->g' ⟨240026008,v'⟩=some ⟨true,1,[eN j]⟩->(∀i:Id,i.site=240026008->i.aZ<nx->g' i=g i)->ET g' ⟨240025002,v⟩ (L++[[j]]) tR:=by
 obtain⟨rows,ids,h1,h2,h3,h4,h5,h6⟩:=h
 refine⟨rows,h1,h2.len,fun g' v v' tR hv xH Nu q1 q2 q3=>⟨_,ids++[⟨240026008,v'⟩],q1,(h2.frame KD fun i hi=>q3 i (h4 i hi).1 (h4 i hi).2).app (.one ⟨_,rfl,q2,rfl⟩),?_,fun i hi=>?_,rfl,xH⟩⟩
 ·refine List.nodup_append.2 ⟨h3,by simp,fun a ha b hb sO=>?_⟩
  rw[List.mem_singleton.1 hb]at sO
  have:=(h4 a ha).2
  rw[sO]at this
  simp only at this
  omega
 ·rcases List.mem_append.1 hi with hi|hi
  ·have:=h4 i hi;exact⟨this.1,by omega⟩
  ·rw[List.mem_singleton.1 hi];exact⟨rfl,Nu⟩
theorem ET.add {g:Rows} {o:Id} {L:List (List Nat)} {nx k:Nat} {La:List Nat} (h:ET g o L nx) (hk:L[k]? =some La) (j:Nat):∃rows id,g o=some ⟨true,1,rows⟩/\rows.length=L.length/\rows[k]? =some [.own id 0 La.length]/\g id=some ⟨true,1,La.map eN⟩/\id.site=240026008/\id.aZ<nx/\∀(g':Rows) (v' tR:Nat),nx<=v'->v'<tR->g' o=some ⟨true,1,rows.set k [.own ⟨240026008,v'⟩ 0 (La.length+1)]⟩->g' ⟨240026008,v'⟩=some ⟨true,1,La.map eN++[[.int .i64 (j:Int)]]⟩->(∀i:Id,i.site=240026008->i.aZ<nx->(i=id)=False->g' i=g i)->ET g' o (L.set k (La++[j])) tR:=by
 obtain⟨rows,ids,h1,h2,h3,h4,h5,h6⟩:=h
 have kW:k<L.length:=(List.getElem?_eq_some_iff.1 hk).1
 have Sj:=ku hk kW
 obtain⟨cs,ic,dn,Oz,PM,uQ⟩:=h2.Qo KD h3 k kW
 rw[Sj]at Oz
 obtain⟨id,rfl,q1,rfl⟩:=Oz
 have hid:=h4 id (PM id (by simp))
 refine⟨rows,id,h1,h2.len,dn,q1,hid.1,hid.2,fun g' v' tR hv xH r1 r2 r3=>?_⟩
 obtain⟨CY,s1,s2,s3⟩:=uQ g' [.own ⟨240026008,v'⟩ 0 (La.length+1)] (La++[j]) [⟨240026008,v'⟩] ⟨_,by simp,by rw[r2];simp[eN],rfl⟩ (fun i hi Rn=>r3 i (h4 i hi).1 (h4 i hi).2 (by
  simp only[eq_iff_iff,iff_false];rintro rfl;exact Rn (by simp))) (by simp) fun i hi hc=>by
   rw[List.mem_singleton.1 hi]at hc
   have:=(h4 _ hc).2
   simp only at this
   omega
 refine⟨_,CY,r1,s1,s2,fun i hi=>?_,h5,by omega⟩
 rcases s3 i hi with h|h
 ·rw[List.mem_singleton.1 h];exact⟨rfl,xH⟩
 ·have:=h4 i h;exact⟨this.1,by omega⟩
def lH (G:Nat->Id) (n k:Nat):List (List AV):=(List.range n).map fun i=>[if i<k then .ptr (G i) 0 0 else .gj]
theorem lZ (G:Nat->Id) (n k:Nat):(lH G n k).length=n:=by simp[lH]
theorem Gk (G:Nat->Id) (n:Nat):List.replicate n [AV.gj]=lH G n 0:=by
 refine List.ext_getElem? fun i=>?_
 by_cases h:i<n
 ·rw[List.getElem?_replicate,if_pos h];simp[lH,h]
 ·rw[List.getElem?_eq_none (by simp;omega),List.getElem?_eq_none (by rw[lZ];omega)]
theorem wb {G:Nat->Id} {n i:Nat} (h:i<n):(lH G n n)[i]? =some [.ptr (G i) 0 0]:=by simp[lH,h]
theorem I3 {G:Nat->Id} {n k:Nat} (h:k<n):(lH G n k).set k [.ptr (G k) 0 0]=lH G n (k+1):=by
 refine List.ext_getElem? fun i=>?_
 rw[List.getElem?_set,lZ]
 by_cases hi:k=i
 ·subst hi;rw[if_pos rfl,if_pos h];simp[lH,h]
 ·rw[if_neg hi]
  by_cases fB:i<n
  ·simp only[lH,List.getElem?_map,List.getElem?_range fB,Option.map_some]
   by_cases xD:i<k
   ·rw[if_pos xD,if_pos (by omega)]
   ·rw[if_neg xD,if_neg (by omega)]
  ·rw[List.getElem?_eq_none (by rw[lZ];omega),List.getElem?_eq_none (by rw[lZ];omega)]
end Go.Proofs.YtgoelphibofcmaaGreat.V

namespace Go.Proofs.YtgoelphibofcmaaGreat.V
open Go.RowKit
attribute [local irreducible] dD wpOps gI Call
attribute [local go_sem] aK fW eU gE gy cE upd ck K.av cN AV.cells AV.cell rowOf rowsOf part ld rowAt bB bY dO ev iI bK db eI gr e8 dx eB cZ cY ea ec bQ aY cQ bP cU cR ez eC eA cP bV da ew bL aL cW cF iH bz cK bR aU dh aT dP AV.undef bF bG eh eu dX dY cI eH eK cD eE eD cV cX List.getD_cons_zero List.getD_cons_succ List.getD_nil List.all_cons List.all_nil Bool.and_true Bool.true_and Bool.and_self Bool.not_true Bool.not_false Option.map_some Option.map_none Option.bind_some Option.bind_none List.length_cons List.length_nil List.take_succ_cons List.take_zero List.take_nil List.drop_succ_cons List.drop_zero List.drop_nil List.head?_cons List.map_cons List.map_nil List.getElem?_cons_zero List.getElem?_cons_succ List.cons_append List.nil_append List.append_nil List.length_map List.set_cons_zero List.set_cons_succ Nat.reduceMul eq_self Int.toNat_natCast Int.natCast_nonneg and_self true_and and_true decide_true decide_false Bool.false_eq_true Nat.zero_add Nat.add_zero List.contains_cons List.contains_nil Bool.or_false Bool.false_or beq_self_eq_true Nat.reduceBEq ne_eq not_true_eq_false not_false_eq_true Id.mk.injEq false_and and_false Nat.reduceLT Int.reduceLE Int.reduceLT Int.reduceToNat Int.reduceNeg Int.reduceAdd Nat.le_refl List.length_append beq_true beq_false Bool.not_eq_eq_eq_not or_false false_or dQ aj aq aH bd bE cm aW bc aN bf cL bU
theorem gL {o:Id} {a:Nat} (h:o.site=a) {b v:Nat} (sO:(a==b)=false):(o=⟨b,v⟩)=False/\((⟨b,v⟩:Id)=o)=False:=by
 have h1:=zy h (v:=v) sO
 refine⟨h1,?_⟩
 simp only[eq_iff_iff,iff_false]at h1 ⊢
 exact fun h=>h1 h.symm
theorem uH (cnt:Nat) (zZ:1<=cnt) (hn:cnt<=1048576) (bs:List PB) (hb:∀b∈bs,b.a<cnt/\b.b<cnt) (mo:bs.length<=1048576):ao Tryz.prog 240 [.int .i64 cnt,.sl (bs.map ay)] (.sl ((fj cnt (dV bs)).map zV)):=by
 intro n0
 refine GQ Mq rfl fun hl=>?_
 try simp only[q]
 clear hl
 have jv:(0:Int)<=(cnt:Int):=by omega
 have pr:(cnt:Int)<=((16777216:Nat):Int):=by omega
 obtain⟨G,hG⟩:∃G:Nat->Id,G=fun k=>⟨240005004,n0+3+4*k+2⟩:=⟨_,rfl⟩
 have QV:∀k,(G k).site=240005004:=fun k=>by rw[hG]
 have Sd:∀k,(G k).aZ=n0+3+4*k+2:=fun k=>by rw[hG]
 have Sb:∀i j,i≠j->(G i=G j)=False:=fun i j h=>by
  simp only[eq_iff_iff,iff_false]
  intro he
  have h1:=Sd i
  rw[he,Sd j]at h1
  omega
 have J3:∀i s v,(240005004==s)=false->(G i=⟨s,v⟩)=False:=fun i s v h=>zy (QV i) h
 have hz:=Gk G cnt
 (try((repeat(revert hN;revert N;apply Pn.out));refine wk (tw @jv (tw @pr (tw @Int.le_refl @hz))) ?_;(repeat(refine Pn.mk ?_;intro N hN))))
 refine aJ (fun n env st=>∃k:Nat,n=(cnt)-k/\k<=(cnt)/\env 21=.int .i64 (k:Int)/\st.get ⟨240001001,n0+1⟩=some ⟨true,1,lH G cnt k⟩/\(st.next=n0+3+4*k/\∀j:Nat,j<k->st.get (G j)=some ⟨true,2,[[.gj,.int .i64 (j:Int)]]⟩)) (cnt) ⟨0,by omega,by omega,sl @hz,sl @hz,⟨rfl,fun j hj=>by omega⟩⟩ ?_
 rintro n_a env_a st_a ⟨k,rfl,ale,a21,ag0,nj⟩ dv
 have a0:=dv 0 (by kernel_rfl);have a1:=dv 1 (by kernel_rfl);have a5:=dv 5 (by kernel_rfl);have Me:=dv 19 (by kernel_rfl);have a20:=dv 20 (by kernel_rfl)
 simp only[go_sem, ↓reduceIte,Nat.reduceEqDiff,Nat.reduceAdd,Nat.reduceSub,Nat.reduceLeDiff,reduceCtorEq,hz]at a0 a1 a5 Me a20
 clear dv
 obtain⟨nj,kR⟩:=nj
 by_cases hk:(k:Int)<(cnt:Int)
 ·have cw:∀{e:Env} {gg:Rows} {nx:Nat},(e 21=.int .i64 (IntKind.i64.wrap ((k:Int)+1)))->(gg ⟨240001001,n0+1⟩=some ⟨true,1,lH G cnt (k+1)⟩)->(nx=n0+3+4*(k+1)/\∀j:Nat,j<(k+1)->gg (G j)=some ⟨true,2,[[.gj,.int .i64 (j:Int)]]⟩)->∃m0,m0<(cnt)-k/\∃k:Nat,m0=(cnt)-k/\k<=(cnt)/\e 21=.int .i64 (k:Int)/\gg ⟨240001001,n0+1⟩=some ⟨true,1,lH G cnt k⟩/\(nx=n0+3+4*k/\∀j:Nat,j<k->gg (G j)=some ⟨true,2,[[.gj,.int .i64 (j:Int)]]⟩):=fun x1 x2 x3=>⟨_,by omega,k+1,rfl,by omega,(by rw[x1,ax (by omega)]),x2,x3⟩
  have e7:k<cnt:=by omega
  have tl:=lZ G cnt k
  have eO:=I3 (G:=G) e7
  have eJ:(lH G cnt k)[k]? =some [.gj]:=by simp[lH,e7]
  have QT:(⟨240005004,st_a.next+1+1⟩:Id)=G k:=by rw[hG,nj]
  have hGf:∀j,j<k->(G j=G k)=False:=fun j hj=>Sb j k (by omega)
  have yN:∀j,(G j=(⟨240001001,n0+1⟩:Id))=False:=fun j=>J3 j _ _ (by decide)
  have CH:∀j,((⟨240001001,n0+1⟩:Id)=G j)=False:=fun j=>by
   have:=yN j
   simp only[eq_iff_iff,iff_false]at this ⊢
   exact fun h=>this h.symm
  (try((repeat(revert hN;revert N;apply Pn.out));refine wk (tw @a21 (tw @ag0 (tw @a0 (tw @a1 (tw @a5 (tw @Me (tw @a20 (tw @hk (tw @tl (tw @QT (tw @yN (tw @CH (tw @eO @eJ))))))))))))) ?_;(repeat(refine Pn.mk ?_;intro N hN))))
  refine cw ?_ ?_ (by
   refine⟨by(try dsimp only)<;>omega,fun j hj=>?_⟩
   by_cases xE:j=k
   ·subst xE;simp only[go_sem, ↓reduceIte,Nat.reduceEqDiff,Nat.reduceAdd,Nat.reduceSub,Nat.reduceLeDiff,reduceCtorEq,QT,yN,CH]
   ·have hold:=kR j (by omega)
    have fZ:=hGf j (by omega)
    simp only[go_sem, ↓reduceIte,Nat.reduceEqDiff,Nat.reduceAdd,Nat.reduceSub,Nat.reduceLeDiff,reduceCtorEq,QT,yN,CH,fZ,hold])
  all_goals simp only[go_sem, ↓reduceIte,Nat.reduceEqDiff,Nat.reduceAdd,Nat.reduceSub,Nat.reduceLeDiff,reduceCtorEq,a21,ag0,a0,a1,a5,Me,a20,QT,yN,CH,eO]
 have kW:cnt=k:=by omega
 subst kW
 (try((repeat(revert hN;revert N;apply Pn.out));refine wk (tw @a21 (tw @ag0 (tw @a0 (tw @a1 (tw @a5 (tw @Me (tw @a20 @hk))))))) ?_;(repeat(refine Pn.mk ?_;intro N hN))))
 refine aJ (fun n env st=>∃i:Nat,n=(bs.length)-i/\i<=(bs.length)/\env 33=.int .i64 (i:Int)/\st.get ⟨240001001,n0+1⟩=some ⟨true,1,lH G cnt cnt⟩/\(n0+3+4*cnt<=st.next)/\(∃px,mO cnt px (dV (bs.take i))/\s9 st.get G cnt px)) (bs.length) ⟨0,by omega,by omega,sl (tw @a21 (tw @ag0 (tw @a0 (tw @a1 (tw @a5 (tw @Me @a20)))))),sl (tw @a21 (tw @ag0 (tw @a0 (tw @a1 (tw @a5 (tw @Me @a20)))))),(by(try dsimp only);omega),⟨fun _=>none,mO.start cnt,kR⟩⟩ ?_
 rintro n_b env_b st_b ⟨i,rfl,ble,ta,bg0,bI0,bI1⟩ ej
 have b0:=ej 0 (by kernel_rfl);have b1:=ej 1 (by kernel_rfl);have b5:=ej 5 (by kernel_rfl);have xg:=ej 31 (by kernel_rfl);have sw:=ej 32 (by kernel_rfl)
 simp only[go_sem, ↓reduceIte,Nat.reduceEqDiff,Nat.reduceAdd,Nat.reduceSub,Nat.reduceLeDiff,reduceCtorEq,a21,ag0,a0,a1,a5,Me,a20]at b0 b1 b5 xg sw
 clear ej
 obtain⟨px,JD,QU⟩:=bI1
 have tl:=lZ G cnt cnt
 have Pm:∀j v,(G j=(⟨240009002,v⟩:Id))=False:=fun j v=>J3 j _ v (by decide)
 have yN:∀j v,(G j=(⟨240001001,v⟩:Id))=False:=fun j v=>J3 j _ v (by decide)
 have CH:∀j v,((⟨240001001,v⟩:Id)=G j)=False:=fun j v=>by
  have:=yN j v
  simp only[eq_iff_iff,iff_false]at this ⊢
  exact fun h=>this h.symm
 have hGn:∀j,j<cnt->(G j).aZ<st_b.next:=fun j hj=>by rw[Sd];omega
 by_cases hi:(i:Int)<(bs.length:Int)
 ·have eL:∀{e:Env} {gg:Rows} {nx:Nat},(e 33=.int .i64 (IntKind.i64.wrap ((i:Int)+1)))->(gg ⟨240001001,n0+1⟩=some ⟨true,1,lH G cnt cnt⟩)->(n0+3+4*cnt<=nx)->(∃px,mO cnt px (dV (bs.take (i+1)))/\s9 gg G cnt px)->∃m0,m0<(bs.length)-i/\∃i:Nat,m0=(bs.length)-i/\i<=(bs.length)/\e 33=.int .i64 (i:Int)/\gg ⟨240001001,n0+1⟩=some ⟨true,1,lH G cnt cnt⟩/\(n0+3+4*cnt<=nx)/\(∃px,mO cnt px (dV (bs.take i))/\s9 gg G cnt px):=fun x1 x2 x3 x4=>⟨_,by omega,i+1,rfl,by omega,(by rw[x1,ax (by omega)]),x2,x3,x4⟩
  have fB:i<bs.length:=by omega
  have jZ:(bs.map ay)[i]? =some (ay bs[i]):=by simp[fB]
  have Fs:=hb _ (List.getElem_mem fB)
  have mZ:bs.take (i+1)=bs.take i++[bs[i]]:=List.take_succ_eq_append_getElem fB
  have ll:dV (bs.take (i+1))=er (dV (bs.take i)) bs[i]:=by rw[mZ,uX]
  have hL:=sR (bs.take i)
  generalize dV (bs.take i)=L at *
  generalize bs[i]=b at *
  have gA:=wb (G:=G) Fs.1
  have gB:=wb (G:=G) Fs.2
  have gn:(b.a:Int)<(cnt:Int):=by omega
  have fw:(b.b:Int)<(cnt:Int):=by omega
  (try((repeat(revert hN;revert N;apply Pn.out));refine wk (tw @ta (tw @bg0 (tw @b0 (tw @b1 (tw @b5 (tw @xg (tw @sw (tw @hi (tw @jZ (tw @ay.eq_1 (tw @gA (tw @gB (tw @gn (tw @fw @tl)))))))))))))) ?_;(repeat(refine Pn.mk ?_;intro N hN))))
  refine DQ (fun e s=>e 0=.int .i64 cnt/\e 1=.sl (bs.map ay)/\e 5=.own ⟨240001001,n0+1⟩ 0 cnt/\e 31=.sl (bs.map ay)/\e 32=.int .i64 bs.length/\e 33=.int .i64 i/\e 9=.ptr (G (L b.a)) 0 0/\e 10=.ptr (G (L b.b)) 0 0/\(∀j:Id,j.aZ<st_b.next->s.get j=st_b.get j)/\st_b.next<=s.next) ?_ ?_
  ·rintro e1 s1 ⟨m0,m1,m5,m31,m32,m33,m9,m10,mf,mn⟩
   refine hN _ _ ?_
   clear hN N
   have mG:s9 s1.get G cnt px:=QU.frame fun k hk=>mf _ (hGn k hk)
   have mt:=(mf ⟨240001001,n0+1⟩ (by(try dsimp only);omega)).trans bg0
   have SJ:L b.a<cnt:=Nat.lt_of_le_of_lt (hL.le _) Fs.1
   have Na:L b.b<cnt:=Nat.lt_of_le_of_lt (hL.le _) Fs.2
   have ra:=mG _ SJ
   have rb:=mG _ Na
   rw[lj (JD.root hL SJ (hL.idem _))]at ra
   rw[lj (JD.root hL Na (hL.idem _))]at rb
   have put:∀(g':Rows) (lo hi:Nat),hi<cnt->g' (G hi)=some ⟨true,2,[[.ptr (G lo) 0 0,.int .i64 (hi:Int)]]⟩->(∀k,k≠hi->k<cnt->g' (G k)=s1.get (G k))->s9 g' G cnt (fun k=>if k=hi then some lo else px k):=fun g' lo hi _ h1 h2 k hk=>by
    by_cases JA:k=hi
    ·subst JA;rw[h1,sN (j:=lo) (if_pos rfl)]
    ·rw[h2 k JA hk,mG k hk]
     unfold rP
     simp only[if_neg JA]
   rcases Nat.lt_trichotomy (L b.a) (L b.b)with dz|heq|dz
   ·have Nc:(L b.a:Int)<(L b.b:Int):=by omega
    have hj:=JD.join hL b (by omega)
    rw[Nat.max_eq_right (by omega),Nat.min_eq_left (by omega),<-ll]at hj
    (try((repeat(revert hN;revert N;apply Pn.out));refine wk (tw @m0 (tw @m1 (tw @m5 (tw @m31 (tw @m32 (tw @m33 (tw @m9 (tw @m10 (tw @ra (tw @rb @Nc)))))))))) ?_;(repeat(refine Pn.mk ?_;intro N hN))))
    refine eL ?_ ?_ (by(try dsimp only);omega) (⟨_,hj,put _ _ _ Na (sd @Nat.zero_add) (fun k hk _=>by
     have fZ:=Sb k _ hk
     simp only[go_sem, ↓reduceIte,Nat.reduceEqDiff,Nat.reduceAdd,Nat.reduceSub,Nat.reduceLeDiff,reduceCtorEq,fZ])⟩)
    all_goals simp only[go_sem, ↓reduceIte,Nat.reduceEqDiff,Nat.reduceAdd,Nat.reduceSub,Nat.reduceLeDiff,reduceCtorEq,m0,m1,m5,m31,m32,m33,mt,yN,CH]
   ·have zZ:¬(L b.a:Int)<(L b.b:Int):=by omega
    have PT:¬(L b.b:Int)<(L b.a:Int):=by omega
    have Km:=y4 heq
    rw[Km]at ll
    (try((repeat(revert hN;revert N;apply Pn.out));refine wk (tw @m0 (tw @m1 (tw @m5 (tw @m31 (tw @m32 (tw @m33 (tw @m9 (tw @m10 (tw @ra (tw @rb (tw @zZ @PT))))))))))) ?_;(repeat(refine Pn.mk ?_;intro N hN))))
    refine eL ?_ ?_ (by(try dsimp only);omega) (⟨_,ll▸JD,mG.frame fun k hk=>rfl⟩)
    all_goals simp only[go_sem, ↓reduceIte,Nat.reduceEqDiff,Nat.reduceAdd,Nat.reduceSub,Nat.reduceLeDiff,reduceCtorEq,m0,m1,m5,m31,m32,m33,mt]
   ·have Nc:(L b.b:Int)<(L b.a:Int):=by omega
    have zZ:¬(L b.a:Int)<(L b.b:Int):=by omega
    have hj:=JD.join hL b (by omega)
    rw[Nat.max_eq_left (by omega),Nat.min_eq_right (by omega),<-ll]at hj
    (try((repeat(revert hN;revert N;apply Pn.out));refine wk (tw @m0 (tw @m1 (tw @m5 (tw @m31 (tw @m32 (tw @m33 (tw @m9 (tw @m10 (tw @ra (tw @rb (tw @Nc @zZ))))))))))) ?_;(repeat(refine Pn.mk ?_;intro N hN))))
    refine eL ?_ ?_ (by(try dsimp only);omega) (⟨_,hj,put _ _ _ SJ (sd @Nat.zero_add) (fun k hk _=>by
     have fZ:=Sb k _ hk
     simp only[go_sem, ↓reduceIte,Nat.reduceEqDiff,Nat.reduceAdd,Nat.reduceSub,Nat.reduceLeDiff,reduceCtorEq,fZ])⟩)
    all_goals simp only[go_sem, ↓reduceIte,Nat.reduceEqDiff,Nat.reduceAdd,Nat.reduceSub,Nat.reduceLeDiff,reduceCtorEq,m0,m1,m5,m31,m32,m33,mt,yN,CH]
  ·intro N hN
   refine eZ ?_ ?_<;>(try((repeat(revert hN;revert N;apply Pn.out));refine wk (tw @ta (tw @bg0 (tw @b0 (tw @b1 (tw @b5 (tw @xg (tw @sw (tw @hi (tw @jZ (tw @ay.eq_1 (tw @gA (tw @gB (tw @gn (tw @fw @tl)))))))))))))) ?_;(repeat(refine Pn.mk ?_;intro N hN))))<;>(try refine eZ ?_ ?_)<;>(try((repeat(revert hN;revert N;apply Pn.out));refine wk (tw @ta (tw @bg0 (tw @b0 (tw @b1 (tw @b5 (tw @xg (tw @sw (tw @hi (tw @jZ (tw @ay.eq_1 (tw @gA (tw @gB (tw @gn (tw @fw @tl)))))))))))))) ?_;(repeat(refine Pn.mk ?_;intro N hN))))<;>(try refine eZ ?_ ?_)<;>(try((repeat(revert hN;revert N;apply Pn.out));refine wk (tw @ta (tw @bg0 (tw @b0 (tw @b1 (tw @b5 (tw @xg (tw @sw (tw @hi (tw @jZ (tw @ay.eq_1 (tw @gA (tw @gB (tw @gn (tw @fw @tl)))))))))))))) ?_;(repeat(refine Pn.mk ?_;intro N hN))))
   all_goals
    refine .inr (aV _ _ _ _ _ (fun r σ1 hq=>?_) (yF G cnt px L JD b.a Fs.1 _ (QU.frame fun k hk=>sd @Pm)))
    obtain⟨g1,x1⟩:=σ1
    obtain⟨rfl,CK,Fv⟩:=hq
    (try dsimp only at CK Fv)
    subst CK
    refine hN _ _ ?_
    clear hN N
    (try((repeat(revert hN;revert N;apply Pn.out));refine wk (tw @ta (tw @bg0 (tw @b0 (tw @b1 (tw @b5 (tw @xg (tw @sw (tw @hi (tw @jZ (tw @ay.eq_1 (tw @gA (tw @gB (tw @gn (tw @fw @tl)))))))))))))) ?_;(repeat(refine Pn.mk ?_;intro N hN))))
    refine .inr (aV _ _ _ _ _ (fun r σ1 hq=>?_) (yF G cnt px L JD b.b Fs.2 _ (QU.frame fun k hk=>sd @Pm)))
    obtain⟨g1,x2⟩:=σ1
    obtain⟨rfl,CK,lz⟩:=hq
    (try dsimp only at CK lz)
    subst CK
    refine hN _ _ ?_
    clear hN N
    (try((repeat(revert hN;revert N;apply Pn.out));refine wk (tw @ta (tw @bg0 (tw @b0 (tw @b1 (tw @b5 (tw @xg (tw @sw (tw @hi (tw @jZ (tw @ay.eq_1 (tw @gA (tw @gB (tw @gn (tw @fw @tl)))))))))))))) ?_;(repeat(refine Pn.mk ?_;intro N hN))))
    exact⟨sd (tw @ta (tw @bg0 (tw @b0 (tw @b1 (tw @b5 (tw @xg @sw)))))),sd (tw @ta (tw @bg0 (tw @b0 (tw @b1 (tw @b5 (tw @xg @sw)))))),sd (tw @ta (tw @bg0 (tw @b0 (tw @b1 (tw @b5 (tw @xg @sw)))))),sd (tw @ta (tw @bg0 (tw @b0 (tw @b1 (tw @b5 (tw @xg @sw)))))),sd (tw @ta (tw @bg0 (tw @b0 (tw @b1 (tw @b5 (tw @xg @sw)))))),sd (tw @ta (tw @bg0 (tw @b0 (tw @b1 (tw @b5 (tw @xg @sw)))))),sd (tw @ta (tw @bg0 (tw @b0 (tw @b1 (tw @b5 (tw @xg @sw)))))),sd (tw @ta (tw @bg0 (tw @b0 (tw @b1 (tw @b5 (tw @xg @sw)))))),fun j hj=>by
     have hv:=dw hj
     simp only[go_sem, ↓reduceIte,Nat.reduceEqDiff,Nat.reduceAdd,Nat.reduceSub,Nat.reduceLeDiff,reduceCtorEq,hv],by(try dsimp only);omega⟩
 have ly:i=bs.length:=by omega
 subst ly
 rw[List.take_length]at JD
 have hL:=sR bs
 generalize dV bs=L at *
 (try((repeat(revert hN;revert N;apply Pn.out));refine wk (tw @ta (tw @bg0 (tw @b0 (tw @b1 (tw @b5 (tw @xg (tw @sw (tw @hi @tl)))))))) ?_;(repeat(refine Pn.mk ?_;intro N hN))))
 have l0:kD 0 L=[]:=rfl
 have oS:(none:Option Nat).isSome=false:=rfl
 have oT:∀a:Nat,(some a).isSome=true:=fun _=>rfl
 refine aJ (fun n env st=>∃x:Nat,n=(cnt)-x/\x<=(cnt)/\env 81=.int .i64 (x:Int)/\st.get ⟨240001001,n0+1⟩=some ⟨true,1,lH G cnt cnt⟩/\st.get ⟨240017000,st_b.next+1+1⟩=some ⟨true,mI.nA,kD x L⟩/\(st_b.next+3<=st.next/\s9 st.get G cnt px)/\((x=0/\env 11=.cj)∨∃o:Id,env 11=.own o 0 (leads x L).length/\ET st.get o (jy x L) st.next)) (cnt) ⟨0,by omega,by omega,sl (tw @ta (tw @bg0 (tw @b0 (tw @b1 (tw @b5 (tw @xg (tw @sw @l0))))))),sl (tw @ta (tw @bg0 (tw @b0 (tw @b1 (tw @b5 (tw @xg (tw @sw @l0))))))),sl (tw @ta (tw @bg0 (tw @b0 (tw @b1 (tw @b5 (tw @xg (tw @sw @l0))))))),⟨by(try dsimp only);omega,QU.frame fun k hk=>by(have fZ:=J3 k 240017000 (st_b.next+1+1) (by decide));simp only[go_sem, ↓reduceIte,Nat.reduceEqDiff,Nat.reduceAdd,Nat.reduceSub,Nat.reduceLeDiff,reduceCtorEq,fZ]⟩,.inl ⟨rfl,sd @Nat.zero_add⟩⟩ ?_
 rintro n_c env_c st_c ⟨x,rfl,cle,c81,cg0,cg1,cI0,cI1⟩ cfr
 have yu:=cfr 12 (by kernel_rfl);have JR:=cfr 79 (by kernel_rfl);have JS:=cfr 80 (by kernel_rfl)
 simp only[go_sem, ↓reduceIte,Nat.reduceEqDiff,Nat.reduceAdd,Nat.reduceSub,Nat.reduceLeDiff,reduceCtorEq,ta,bg0,b0,b1,b5,xg,sw,l0]at yu JR JS
 clear cfr
 obtain⟨iU,O7⟩:=cI0
 have MS:∀j v,(G j=(⟨240017000,v⟩:Id))=False:=fun j v=>J3 j _ v (by decide)
 have MN:∀j v,(G j=(⟨240025002,v⟩:Id))=False:=fun j v=>J3 j _ v (by decide)
 have MP:∀j v,(G j=(⟨240025001,v⟩:Id))=False:=fun j v=>J3 j _ v (by decide)
 have MR:∀j v,(G j=(⟨240026007,v⟩:Id))=False:=fun j v=>J3 j _ v (by decide)
 have MO:∀j v,(G j=(⟨240026008,v⟩:Id))=False:=fun j v=>J3 j _ v (by decide)
 by_cases hx:(x:Int)<(cnt:Int)
 ·have gU:∀{e:Env} {gg:Rows} {nx:Nat},(e 81=.int .i64 (IntKind.i64.wrap ((x:Int)+1)))->(gg ⟨240001001,n0+1⟩=some ⟨true,1,lH G cnt cnt⟩)->(gg ⟨240017000,st_b.next+1+1⟩=some ⟨true,mI.nA,kD (x+1) L⟩)->(st_b.next+3<=nx/\s9 gg G cnt px)->(((x+1)=0/\e 11=.cj)∨∃o:Id,e 11=.own o 0 (leads (x+1) L).length/\ET gg o (jy (x+1) L) nx)->∃m0,m0<(cnt)-x/\∃x:Nat,m0=(cnt)-x/\x<=(cnt)/\e 81=.int .i64 (x:Int)/\gg ⟨240001001,n0+1⟩=some ⟨true,1,lH G cnt cnt⟩/\gg ⟨240017000,st_b.next+1+1⟩=some ⟨true,mI.nA,kD x L⟩/\(st_b.next+3<=nx/\s9 gg G cnt px)/\((x=0/\e 11=.cj)∨∃o:Id,e 11=.own o 0 (leads x L).length/\ET gg o (jy x L) nx):=fun x1 x2 x3 x4 x5=>⟨_,by omega,x+1,rfl,by omega,(by rw[x1,ax (by omega)]),x2,x3,x4,x5⟩
  have OT:x<cnt:=by omega
  have gX:=wb (G:=G) OT
  have hlx:L x<cnt:=Nat.lt_of_le_of_lt (hL.le _) OT
  have ra:=O7 _ hlx
  rw[lj (JD.root hL hlx (hL.idem _))]at ra
  have pS:=jB x L
  (try((repeat(revert hN;revert N;apply Pn.out));refine wk (tw @c81 (tw @cg0 (tw @cg1 (tw @yu (tw @JR (tw @JS (tw @hx (tw @gX @tl)))))))) ?_;(repeat(refine Pn.mk ?_;intro N hN))))
  refine .inr (aV _ _ _ _ _ (fun r σ1 hq=>?_) (yF G cnt px L JD x OT _ (O7.frame fun k hk=>sd @Nat.zero_add)))
  obtain⟨g1,x1⟩:=σ1
  obtain⟨rfl,CK,Fv⟩:=hq
  (try dsimp only at CK Fv)
  subst CK
  refine hN _ _ ?_
  clear hN N
  by_cases hr:L x=x
  ·rw[hr]at ra ⊢
   have l9:=FV hr
   have Rj:(leads (x+1) L).length=(leads x L).length+1:=by rw[gG,if_pos hr];simp
   have ON:=C8 hr
   have Rc:=CE hL hr
   rcases cI1 with⟨rfl,nq⟩|⟨o,nq,cS⟩
   ·have S9:kD 1 L=[[.int .i64 ((0:Nat):Int),.int .i64 ((0:Nat):Int)]]:=ON
    (try((repeat(revert hN;revert N;apply Pn.out));refine wk (tw @c81 (tw @cg0 (tw @cg1 (tw @yu (tw @JR (tw @JS (tw @nq (tw @ra (tw @l9 (tw @l0 (tw @oS (tw @oT (tw @Bool.not_false @Bool.not_true))))))))))))) ?_;(repeat(refine Pn.mk ?_;intro N hN))))
    refine gU ?_ ?_ ?_ (by(try dsimp only);exact⟨by omega,O7.frame fun k hk=>sd (tw @MS (tw @MN (tw @MO (tw @MP @MR))))⟩) (.inr ⟨⟨240025002,x1+1+1+1+1⟩,by simp only[go_sem, ↓reduceIte,Nat.reduceEqDiff,Nat.reduceAdd,Nat.reduceSub,Nat.reduceLeDiff,reduceCtorEq,Rj];rfl,by rw[Rc];exact J2 (v':=x1+1+1+1+1+1) (sd @Nat.zero_add) (sd @eN.eq_1) (by(try dsimp only);omega) (by(try dsimp only);omega)⟩)
    all_goals simp only[go_sem, ↓reduceIte,Nat.reduceEqDiff,Nat.reduceAdd,Nat.reduceSub,Nat.reduceLeDiff,reduceCtorEq,c81,cg0,cg1,yu,JR,JS,S9]
   ·obtain⟨rows,uL,tL,j0⟩:=cS.new x
    rw[pQ]at tL
    have wR:o.site=240025002:=by obtain⟨_,_,_,_,_,_,h,_⟩:=cS;exact h
    have lQ:o.aZ<x1:=by obtain⟨_,_,_,_,_,_,_,h⟩:=cS;omega
    have pU:=dw lQ
    have PW:=gL (o:=o) wR (b:=240017000) (v:=st_b.next+1+1) (by decide)
    have OG:=gL (o:=o) wR (b:=240001001) (v:=n0+1) (by decide)
    have MT:∀k,(G k=o)=False:=fun k=>by simp only[eq_iff_iff,iff_false];intro h;have h1:=QV k;rw[h,wR]at h1;cases h1
    have rT:(rows++[[AV.cj]])[(leads x L).length]? =some [.cj]:=by rw[<-tL];simp
    have AW:∀a:List AV,(rows++[[AV.cj]]).set (leads x L).length a=rows++[a]:=fun a=>by rw[<-tL];simp
    have e1:(leads x L).length+1<=16777216:=by omega
    have e2:((leads x L).length:Int)<(((leads x L).length+1:Nat):Int):=by omega
    (try((repeat(revert hN;revert N;apply Pn.out));refine wk (tw @c81 (tw @cg0 (tw @cg1 (tw @yu (tw @JR (tw @JS (tw @nq (tw @ra (tw @l9 (tw @uL (tw @tL (tw @pU (tw @PW (tw @rT (tw @AW (tw @e1 (tw @e2 (tw @oS (tw @oT (tw @Bool.not_false @Bool.not_true)))))))))))))))))))) ?_;(repeat(refine Pn.mk ?_;intro N hN))))
    refine gU ?_ ?_ ?_ (by(try dsimp only);exact⟨by omega,O7.frame fun k hk=>sd (tw @MS (tw @MN (tw @MO (tw @MP (tw @MR @MT)))))⟩) (.inr ⟨⟨240025002,x1+1+1+1+1⟩,sd @Rj,by rw[Rc];exact j0 _ _ (x1+1+1+1+1+1) _ (by omega) (by(try dsimp only);omega) (by(try dsimp only);omega) (sd @AW) (sd @eN.eq_1) (fun j hj hv=>by
     have q1:=dw (i:=j) (n:=x1) (by omega)
     have q2:=gL hj (b:=240017000) (v:=st_b.next+1+1) (by decide)
     have q3:(j=o)=False:=by simp only[eq_iff_iff,iff_false];intro h;rw[h,wR]at hj;cases hj
     simp only[go_sem, ↓reduceIte,Nat.reduceEqDiff,Nat.reduceAdd,Nat.reduceSub,Nat.reduceLeDiff,reduceCtorEq,q1,q2,q3])⟩)
    all_goals simp only[go_sem, ↓reduceIte,Nat.reduceEqDiff,Nat.reduceAdd,Nat.reduceSub,Nat.reduceLeDiff,reduceCtorEq,c81,cg0,cg1,yu,JR,JS,ON,pU,PW,OG]
  ·obtain⟨l9,GJ,dz⟩:=xO hL hr
   obtain⟨PJ,Rc⟩:=CF hL hr
   have Rj:(leads (x+1) L).length=(leads x L).length:=by rw[gG,if_neg hr];simp
   have Km:=C7 hr
   rcases cI1 with⟨rfl,nq⟩|⟨o,nq,cS⟩
   ·exact absurd (Nat.le_zero.1 (hL.le 0)) hr
   ·obtain⟨rows,id,uL,tL,hrk,hid,HN,hidv,Sp⟩:=cS.add PJ x
    rw[pQ]at tL
    have wR:o.site=240025002:=by obtain⟨_,_,_,_,_,_,h,_⟩:=cS;exact h
    have lQ:o.aZ<x1:=by obtain⟨_,_,_,_,_,_,_,h⟩:=cS;omega
    have pU:=dw lQ
    have xH:=dw (i:=id) (n:=x1) (by omega)
    have jZ:(br L x:Int)<((leads x L).length:Int):=by omega
    have PS:=Bh x L (L x)
    have hma:((members x L (L x)).map eN).length=(members x L (L x)).length:=by simp
    have e1:(members x L (L x)).length+1<=16777216:=by omega
    have hoi:(o=id)=False:=by simp only[eq_iff_iff,iff_false];rintro rfl;rw[HN]at wR;cases wR
    have hio:(id=o)=False:=by simp only[eq_iff_iff,iff_false];rintro rfl;rw[HN]at wR;cases wR
    have PW:=gL (o:=o) wR (b:=240017000) (v:=st_b.next+1+1) (by decide)
    have OG:=gL (o:=o) wR (b:=240001001) (v:=n0+1) (by decide)
    have hiM:=gL (o:=id) HN (b:=240017000) (v:=st_b.next+1+1) (by decide)
    have hiT:=gL (o:=id) HN (b:=240001001) (v:=n0+1) (by decide)
    have MT:∀k,(G k=o)=False:=fun k=>by simp only[eq_iff_iff,iff_false];intro h;have h1:=QV k;rw[h,wR]at h1;cases h1
    have Sc:∀k,(G k=id)=False:=fun k=>by simp only[eq_iff_iff,iff_false];intro h;have h1:=QV k;rw[h,HN]at h1;cases h1
    (try((repeat(revert hN;revert N;apply Pn.out));refine wk (tw @c81 (tw @cg0 (tw @cg1 (tw @yu (tw @JR (tw @JS (tw @nq (tw @ra (tw @l9 (tw @GJ (tw @uL (tw @tL (tw @hrk (tw @hid (tw @pU (tw @xH (tw @jZ (tw @hma (tw @e1 (tw @hoi (tw @hio (tw @PW (tw @OG (tw @hiM (tw @hiT (tw @oS (tw @oT (tw @Bool.not_false @Bool.not_true)))))))))))))))))))))))))))) ?_;(repeat(refine Pn.mk ?_;intro N hN))))
    refine gU ?_ ?_ ?_ (by(try dsimp only);exact⟨by omega,O7.frame fun k hk=>sd (tw @MS (tw @MN (tw @MO (tw @MP (tw @MR (tw @MT @Sc))))))⟩) (.inr ⟨o,sd (tw @Rj @nq),by rw[Rc];exact Sp _ (x1+1+1) _ (by omega) (by(try dsimp only);omega) (sd @Nat.zero_add) (sd (tw @pU (tw @xH (tw @hoi @hio)))) (fun j hj hv l8=>by
     have q1:=dw (i:=j) (n:=x1) (by omega)
     have q2:=gL hj (b:=240017000) (v:=st_b.next+1+1) (by decide)
     have q3:(j=o)=False:=by simp only[eq_iff_iff,iff_false];intro h;rw[h,wR]at hj;cases hj
     simp only[go_sem, ↓reduceIte,Nat.reduceEqDiff,Nat.reduceAdd,Nat.reduceSub,Nat.reduceLeDiff,reduceCtorEq,q1,q2,q3,l8])⟩)
    all_goals simp only[go_sem, ↓reduceIte,Nat.reduceEqDiff,Nat.reduceAdd,Nat.reduceSub,Nat.reduceLeDiff,reduceCtorEq,c81,cg0,cg1,yu,JR,JS,Km,pU,xH,PW,OG,hiM,hiT]
 have Th:x=cnt:=by omega
 rcases cI1 with⟨h0,_⟩|⟨o,nq,rows,ids,uL,hR,_,_,_,_⟩
 ·omega
 have tL:=hR.len
 rw[pQ]at tL
 (try((repeat(revert hN;revert N;apply Pn.out));refine wk (tw @c81 (tw @cg0 (tw @cg1 (tw @yu (tw @JR (tw @JS (tw @hx (tw @nq @uL)))))))) ?_;(repeat(refine Pn.mk ?_;intro N hN))))
 refine vO (.inl rfl) (by simp only[go_sem, ↓reduceIte,Nat.reduceEqDiff,Nat.reduceAdd,Nat.reduceSub,Nat.reduceLeDiff,reduceCtorEq];rfl) ?_
 rw[tE uL (by omega) (rows':=(fj cnt L).map zV) (by
  rw[List.drop_zero,List.take_of_length_le (by omega)]
  rw[Th]at hR;exact Ij 3 hR)]
end Go.Proofs.YtgoelphibofcmaaGreat.V

namespace Go.Proofs.YtgoelphibofcmaaGreat.V
open Go.RowKit
attribute [local irreducible] dD wpOps gI Call
attribute [local go_sem] aK fW eU gE gy cE upd ck K.av cN AV.cells AV.cell rowOf rowsOf part ld rowAt bB bY dO ev iI bK db eI gr e8 dx eB cZ cY ea ec bQ aY cQ bP cU cR ez eC eA cP bV da ew bL aL cW cF iH bz cK bR aU dh aT dP AV.undef bF bG eh eu dX dY cI eH eK cD eE eD cV cX List.getD_cons_zero List.getD_cons_succ List.getD_nil List.all_cons List.all_nil Bool.and_true Bool.true_and Bool.and_self Bool.not_true Bool.not_false Option.map_some Option.map_none Option.bind_some Option.bind_none List.length_cons List.length_nil List.take_succ_cons List.take_zero List.take_nil List.drop_succ_cons List.drop_zero List.drop_nil List.head?_cons List.map_cons List.map_nil List.getElem?_cons_zero List.getElem?_cons_succ List.cons_append List.nil_append List.append_nil List.length_map List.set_cons_zero List.set_cons_succ Nat.reduceMul eq_self Int.toNat_natCast Int.natCast_nonneg and_self true_and and_true decide_true decide_false Bool.false_eq_true Nat.zero_add Nat.add_zero List.contains_cons List.contains_nil Bool.or_false Bool.false_or beq_self_eq_true Nat.reduceBEq ne_eq not_true_eq_false not_false_eq_true Id.mk.injEq false_and and_false Nat.reduceLT Int.reduceLE Int.reduceLT Int.reduceToNat Int.reduceNeg Int.reduceAdd Nat.le_refl List.length_append beq_true beq_false Bool.not_eq_eq_eq_not or_false false_or dQ aj aq aH bd bE cm aW bc aN bf cL bU
theorem Ji (b:PB) (t:Int):ao Tryz.prog 243 [.agg (ay b),.cr [.int .i64 t]] (.bool (decide (b.s<t))):=by
 refine ao.body eG rfl fun hl n0=>?_
 clear hl
 (try((repeat(revert hN;revert N;apply Pn.out));refine wk @ay.eq_1 ?_;(repeat(refine Pn.mk ?_;intro N hN))))
 exact aI (b:=decide (b.s<t)) (.inl rfl) (sd @Nat.zero_add) rfl
theorem xJ (bs:List PB) (t:Int) (hl:bs.length<=1048576):ao Tryz.prog 263 [.sl (bs.map ay),.fn 243 [.cr [.int .i64 t]]] (.int .i64 (im (fun b:PB=>decide (b.s<t)) bs)):=
 n9 Hp (show ns Tryz.prog 263=some (pV 263 3 true) by kernel_rfl) bs hl 243 _ _ (fun x _=>Ji x t) fun g=>by simp only[aj,aq,aN,Option.map_some]
theorem Hl (bs:List PB) (hp:0<bs.length) (hl:bs.length<=1048576) (σ:ar):
  Call Tryz.prog 242 [.sl (bs.map ay)] σ fun r σ'=>∃o:Id,r=.own o 0 bs.length/\σ'.get o=some ⟨true,3,bs.map ay⟩/\σ.next<=o.aZ/\o.aZ<σ'.next/\∀i:Id,i.aZ<σ.next->σ'.get i=σ.get i:=by
 refine gW eG rfl fun hl=>?_
 clear hl
 have hz:=all_map (l:=bs) L6
 obtain⟨b,r,rfl⟩:∃b r,bs=b::r:=by
  cases bs with
  |nil=>simp at hp
  |cons b r=>exact⟨b,r,rfl⟩
 have pS:(List.map ay (b::r)).length=(b::r).length:=by simp
 have e1:r.length<=16777215:=by simp at hl;omega
 rw[List.map_cons]at hz pS ⊢
 (try((repeat(revert hN;revert N;apply Pn.out));refine wk (tw @hz (tw @pS @e1)) ?_;(repeat(refine Pn.mk ?_;intro N hN))))
 refine gK (.inl rfl) (vs:=[.own ⟨242003002,σ.next+1+1⟩ 0 (b::r).length]) (by simp only[e5,gV,go_sem, ↓reduceIte,Nat.reduceEqDiff,Nat.reduceAdd,Nat.reduceSub,Nat.reduceLeDiff,reduceCtorEq,List.length_cons]) ⟨⟨242003002,σ.next+1+1⟩,rfl,sd @Nat.zero_add,by(try dsimp only);omega,by(try dsimp only);omega,fun i hi=>?_⟩
 have hv:=dw hi
 simp only[go_sem, ↓reduceIte,Nat.reduceEqDiff,Nat.reduceAdd,Nat.reduceSub,Nat.reduceLeDiff,reduceCtorEq,hv]
theorem ow {t:Int} {bs:List PB} {j:Nat} (hj:j<bs.length):aE t (bs.take (j+1))=aE t (bs.take j)++if decide (bs[j].s<t)=true then[]else[bs[j]]:=by
 rw[s7 t bs j hj]
 congr 1
 by_cases h:bs[j].s<t
 ·rw[if_neg (by omega),if_pos (decide_eq_true h)]
 ·rw[if_pos (by omega),if_neg (by simp only[decide_eq_true_eq];exact h)]
theorem s6 {t:Int} {bs:List PB} (h:∀b∈bs,¬b.s<t):aE t bs=bs:=by
 unfold aE
 rw[List.filter_eq_self]
 intro b hb
 have:=h b hb
 exact decide_eq_true (by omega)
structure s8 (t:Int) (bs:List PB) (j:Nat) (R:List PB):Prop where
 len:R.length=bs.length
 pre:R.take (aE t (bs.take j)).length=aE t (bs.take j)
 post:∀x,j<=x->R[x]? =bs[x]?
 lt:(aE t (bs.take j)).length<j
theorem s8.start {t:Int} {bs:List PB} {i:Nat} (hi:i<bs.length) (hw:bs[i].s<t) (hp:∀x (h:x<i),¬bs[x].s<t):s8 t bs (i+1) bs/\(aE t (bs.take (i+1))).length=i:=by
 have h1:aE t (bs.take i)=bs.take i:=s6 fun b hb=>by
  obtain⟨x,hx,rfl⟩:=List.getElem_of_mem hb
  rw[List.length_take]at hx
  rw[List.getElem_take]
  exact hp x (by omega)
 have h2:aE t (bs.take (i+1))=bs.take i:=by rw[ow hi,if_pos (decide_eq_true hw),List.append_nil,h1]
 have h3:(bs.take i).length=i:=by rw[List.length_take];omega
 exact⟨⟨rfl,by rw[h2,h3],fun _ _=>rfl,by rw[h2,h3];omega⟩,by rw[h2,h3]⟩
theorem s8.N4 {t:Int} {bs R:List PB} {j:Nat} (h:s8 t bs j R) (hj:j<bs.length) (hw:bs[j].s<t):s8 t bs (j+1) R/\(aE t (bs.take (j+1))).length=(aE t (bs.take j)).length:=by
 have h2:aE t (bs.take (j+1))=aE t (bs.take j):=by rw[ow hj,if_pos (decide_eq_true hw),List.append_nil]
 exact⟨⟨h.len,by rw[h2];exact h.pre,fun x hx=>h.post x (by omega),by rw[h2];have:=h.lt;omega⟩,by rw[h2]⟩
theorem s8.pg {t:Int} {bs R:List PB} {j:Nat} (h:s8 t bs j R) (hj:j<bs.length) (hw:¬bs[j].s<t):s8 t bs (j+1) (R.set (aE t (bs.take j)).length bs[j])/\(aE t (bs.take (j+1))).length=(aE t (bs.take j)).length+1:=by
 have h2:aE t (bs.take (j+1))=aE t (bs.take j)++[bs[j]]:=by rw[ow hj,if_neg (by simp only[decide_eq_true_eq];exact hw)]
 have dz:=h.lt
 have hlen:=h.len
 have pe:=h.pre
 generalize hc:(aE t (bs.take j)).length=c at *
 refine⟨⟨by rw[List.length_set];exact hlen,?_,fun x hx=>?_,by rw[h2,List.length_append,hc];simp;omega⟩,by rw[h2,List.length_append,hc];rfl⟩
 ·rw[h2,List.length_append,hc,List.length_singleton,List.take_succ_eq_append_getElem (by rw[List.length_set];omega),List.getElem_set_self,List.take_set_of_le (Nat.le_refl _),pe]
 ·rw[List.getElem?_set_ne (by omega)];exact h.post x (by omega)
theorem s8.at_ {t:Int} {bs R:List PB} {j:Nat} (h:s8 t bs j R) (hj:j<bs.length):(R.map ay)[j]? =some (ay bs[j]):=by
 rw[List.getElem?_map,h.post j (Nat.le_refl j),List.getElem?_eq_getElem hj];rfl
theorem Cr {p:PB->Bool} {bs:List PB} (h:¬0<=im p bs):∀b∈bs,p b=false:=by
 intro b hb
 unfold im at h
 split at h
 ·omega
 ·rename_i h1
  rw[List.findIdx_lt_length]at h1
  cases hp:p b
  ·rfl
  ·exact absurd ⟨b,hb,hp⟩ h1
theorem Cs {p:PB->Bool} {bs:List PB} (h:0<=im p bs):∃i,∃hi:i<bs.length,im p bs=(i:Int)/\p bs[i]=true/\∀x (hx:x<i),p (bs[x]'(by omega))=false:=by
 unfold im at h ⊢
 split
 ·rename_i h1
  exact⟨bs.findIdx p,h1,rfl,List.findIdx_getElem,fun x hx=>by simpa using List.not_of_lt_findIdx hx⟩
 ·rename_i h1;rw[if_neg h1]at h;omega
theorem Ff (bs:List PB) (t:Int) (hl:bs.length<=1048576) (o T:Id) (σ:ar) (ho:σ.get o=some ⟨true,3,bs.map ay⟩) (hT:σ.get T=some ⟨true,1,[[.int .i64 t]]⟩) (lQ:o.aZ<σ.next) (Q1:T.aZ<σ.next) (OG:o≠T):
  Call Tryz.prog 241 [.own o 0 bs.length,.fn 243 [.ptr T 0 0]] σ fun r σ'=>∃rows,r=.own o 0 (aE t bs).length/\σ'.get o=some ⟨true,3,rows⟩/\rows.take (aE t bs).length=(aE t bs).map ay/\(aE t bs).length<=rows.length/\σ.next<=σ'.next/\∀i:Id,i.aZ<σ.next->i≠o->σ'.get i=σ.get i:=by
 refine gW eG rfl fun mu=>?_
 clear mu
 have zX:=xJ bs t hl
 have hzT:∀(g:Rows),g T=some ⟨true,1,[[.int .i64 t]]⟩->V.fz (dQ g) 5 (.ptr T 0 0)=some (.cr [.int .i64 t]):=fun g hg=>rO (sz:=1) (rows:=[[.int .i64 t]]) (by simp[dQ,hg]) rfl (by simp only[List.drop_zero,aj,aq,aH,Option.map_some])
 have tM:∀(g:Rows),g T=some ⟨true,1,[[.int .i64 t]]⟩->g o=some ⟨true,3,bs.map ay⟩->cG (dQ g) 6 [.own o 0 bs.length,.fn 243 [.ptr T 0 0]]=some [.sl (bs.map ay),.fn 243 [.cr [.int .i64 t]]]:=fun g h1 h2=>by
  have q1:=ib (g:=dQ g) (n:=5) (e:=ay) (sz:=3) (len:=bs.length) (l:=bs) (id:=o) (by simp[dQ,h2]) rfl fun b=>yH _ 4 b
  have q2:=hzT g h1
  simp only[aj,aq,q1,cL,List.all_cons,List.all_nil,AV.cell,Bool.and_true,if_true,q2,Option.map_some]
 have kh:∀(g:Rows),g T=some ⟨true,1,[[.int .i64 t]]⟩->∀b:PB,cG (dQ g) 6 [.agg (ay b),.ptr T 0 0]=some [.agg (ay b),.cr [.int .i64 t]]:=fun g h1 b=>by
  have q3:V.fz (dQ g) 6 (.ptr T 0 0)=some (.cr [.int .i64 t]):=rO (sz:=1) (rows:=[[.int .i64 t]]) (by simp[dQ,h1]) rfl (by simp only[List.drop_zero,aj,aq,aH,Option.map_some])
  simp only[aj,aq,bc,yH,q3,Option.map_some]
 (try((repeat(revert hN;revert N;apply Pn.out));refine wk @Nat.zero_add ?_;(repeat(refine Pn.mk ?_;intro N hN))))
 refine .inl ⟨_,ao.x zX (tM _ hT ho),?_⟩
 refine hN _ _ ?_
 clear hN N
 by_cases h0:0<=im (fun b:PB=>decide (b.s<t)) bs
 ·obtain⟨i,hi,El,S4,HW⟩:=Cs h0
  rw[El]at *
  have Fw:decide ((i:Int)= -1)=false:=decide_eq_false (by omega)
  have LO:IntKind.i64.wrap ((i:Int)+1)=((i+1:Nat):Int):=ax (by omega)
  obtain⟨dc,AW⟩:=s8.start (t:=t) hi (by simpa using S4) (fun x hx=>by simpa using HW x hx)
  (try((repeat(revert hN;revert N;apply Pn.out));refine wk (tw @Fw @LO) ?_;(repeat(refine Pn.mk ?_;intro N hN))))
  refine aJ (fun m env st=>∃(j:Nat) (R:List PB),m=bs.length-j/\env 6=.int .i64 (j:Int)/\env 5=.int .i64 ((aE t (bs.take j)).length:Int)/\st.get o=some ⟨true,3,R.map ay⟩/\s8 t bs j R/\j<=bs.length/\σ.next<=st.next/\∀x:Id,x.aZ<σ.next->(x=o)=False->st.get x=σ.get x) (bs.length-(i+1)) ⟨i+1,bs,rfl,sd @LO,sd @AW,sd @ho,dc,by omega,by(try dsimp only);omega,fun x _ _=>sd @Nat.zero_add⟩ ?_
  rintro m env_b st_b ⟨j,R,rfl,b6,b5,bg,hD,gw,hle,jq⟩ ej
  have b0:=ej 0 (by kernel_rfl)
  have b1:=ej 1 (by kernel_rfl)
  simp only[go_sem, ↓reduceIte,Nat.reduceEqDiff,Nat.reduceAdd,Nat.reduceSub,Nat.reduceLeDiff,reduceCtorEq]at b0 b1
  clear ej
  have bT:=(jq T Q1 (by simp only[eq_iff_iff,iff_false];exact fun h=>OG h.symm)).trans hT
  have iY:=dw (i:=o) (n:=st_b.next) (by omega)
  have Te:=dw (i:=T) (n:=st_b.next) (by omega)
  have QZ:=hD.len
  have MV:(R.map ay).length=bs.length:=by rw[List.length_map,QZ]
  have dz:=hD.lt
  by_cases hj:(j:Int)<(bs.length:Int)
  ·have nu:j<bs.length:=by omega
   have Ej:=hD.at_ nu
   have Kr:=Ji bs[j] t
   have Kq:IntKind.i64.wrap ((j:Int)+1)=((j+1:Nat):Int):=ax (by omega)
   have Pj:=hD.N4 nu
   have Pk:=hD.pg nu
   generalize bs[j]=b at *
   (try((repeat(revert hN;revert N;apply Pn.out));refine wk (tw @b0 (tw @b1 (tw @b5 (tw @b6 (tw @bg (tw @hj (tw @Ej (tw @ay.eq_1 (tw @iY (tw @Te @MV)))))))))) ?_;(repeat(refine Pn.mk ?_;intro N hN))))
   refine .inl ⟨_,ao.x Kr (kh _ (sd (tw @Te @bT)) b),?_⟩
   refine hN _ _ ?_
   clear hN N
   by_cases hw:b.s<t
   ·obtain⟨MM,ML⟩:=Pj hw
    have hd:decide (b.s<t)=true:=decide_eq_true hw
    (try((repeat(revert hN;revert N;apply Pn.out));refine wk (tw @b0 (tw @b1 (tw @b5 (tw @b6 (tw @hd @Kq))))) ?_;(repeat(refine Pn.mk ?_;intro N hN))))
    refine⟨_,?_,j+1,R,rfl,sd @Kq,sd (tw @b5 @ML),sd (tw @bg @iY),MM,by omega,by(try dsimp only);omega,fun x hx tp=>?_⟩
    ·omega
    ·have JH:=dw (i:=x) (n:=st_b.next) (by omega)
     have:=jq x hx tp
     simp only[go_sem, ↓reduceIte,Nat.reduceEqDiff,Nat.reduceAdd,Nat.reduceSub,Nat.reduceLeDiff,reduceCtorEq,JH,this]
   ·obtain⟨MM,ML⟩:=Pk hw
    have hd:decide (b.s<t)=false:=decide_eq_false hw
    have M1:((aE t (bs.take j)).length:Int)<(bs.length:Int):=by omega
    have P8:IntKind.i64.wrap (((aE t (bs.take j)).length:Int)+1)=(((aE t (bs.take j)).length+1:Nat):Int):=ax (by omega)
    have eO:(R.map ay).set (aE t (bs.take j)).length [.int .i64 (b.a:Int),.int .i64 (b.b:Int),.int .i64 b.s]=(R.set (aE t (bs.take j)).length b).map ay:=by rw[List.map_set];rfl
    have J9:∃y,(R.map ay)[(aE t (bs.take j)).length]? =some (ay y):=⟨R[(aE t (bs.take j)).length]'(by omega),by rw[List.getElem?_map,List.getElem?_eq_getElem (by omega)];rfl⟩
    obtain⟨y,J9⟩:=J9
    rw[ay]at J9
    (try((repeat(revert hN;revert N;apply Pn.out));refine wk (tw @b0 (tw @b1 (tw @b5 (tw @b6 (tw @bg (tw @hd (tw @Kq (tw @P8 (tw @M1 (tw @eO (tw @J9 (tw @iY (tw @Te @MV))))))))))))) ?_;(repeat(refine Pn.mk ?_;intro N hN))))
    refine⟨_,?_,j+1,_,rfl,sd @Kq,sd (tw @P8 @ML),sd @eO,MM,by omega,by(try dsimp only);omega,fun x hx tp=>?_⟩
    ·omega
    ·have JH:=dw (i:=x) (n:=st_b.next) (by omega)
     have:=jq x hx tp
     simp only[go_sem, ↓reduceIte,Nat.reduceEqDiff,Nat.reduceAdd,Nat.reduceSub,Nat.reduceLeDiff,reduceCtorEq,JH,this,tp]
  ·have gw:j=bs.length:=by omega
   subst gw
   have pe:=hD.pre
   rw[List.take_length]at b5 dz pe
   have M1:((aE t bs).length:Int)<=(bs.length:Int):=by omega
   have M3:(aE t bs).length<=bs.length:=by omega
   have nZ:(aE t bs).length+(bs.length-(aE t bs).length)=bs.length:=by omega
   have AW:=mJ t bs
   (try((repeat(revert hN;revert N;apply Pn.out));refine wk (tw @b0 (tw @b1 (tw @b5 (tw @b6 (tw @bg (tw @hj (tw @MV (tw @M1 (tw @M3 (tw @nZ (tw @Nat.le_refl (tw @Nat.sub_zero (tw @Int.le_refl @iY))))))))))))) ?_;(repeat(refine Pn.mk ?_;intro N hN))))
   refine gK (.inl rfl) (vs:=[.own o 0 (aE t bs).length]) (sd @Nat.zero_add) ⟨_,rfl,by simp only[go_sem, ↓reduceIte,Nat.reduceEqDiff,Nat.reduceAdd,Nat.reduceSub,Nat.reduceLeDiff,reduceCtorEq];rfl,?_,?_,by(try dsimp only);omega,fun x hx tp=>?_⟩
   ·have hm:List.take (aE t bs).length (List.map ay R)=(aE t bs).map ay:=by rw[<-List.map_take,pe]
    rw[hm,List.append_assoc,List.take_append_of_le_length (by simp),List.take_of_length_le (by simp)]
   ·have hm:List.take (aE t bs).length (List.map ay R)=(aE t bs).map ay:=by rw[<-List.map_take,pe]
    rw[hm]
    simp only[List.length_append,List.length_map]
    omega
   ·have H6:(x=o)=False:=by simp only[eq_iff_iff,iff_false];exact tp
    have:=jq x hx H6
    simp only[go_sem, ↓reduceIte,Nat.reduceEqDiff,Nat.reduceAdd,Nat.reduceSub,Nat.reduceLeDiff,reduceCtorEq,H6,this]
 ·have hn:=Cr h0
  have dc:=s6 (t:=t) (bs:=bs) fun b hb=>by simpa using hn b hb
  have hd:decide (im (fun b:PB=>decide (b.s<t)) bs= -1)=true:=decide_eq_true (by
   unfold im at h0 ⊢
   split
   ·rename_i h;rw[if_pos h]at h0;omega
   ·rfl)
  (try((repeat(revert hN;revert N;apply Pn.out));refine wk @hd ?_;(repeat(refine Pn.mk ?_;intro N hN))))
  refine gK (.inl rfl) (vs:=[.own o 0 bs.length]) (sd @Nat.zero_add) ⟨bs.map ay,by rw[dc];rfl,sd @ho,by rw[dc,List.take_of_length_le (by simp)],by rw[dc];simp,by(try dsimp only);omega,fun x _ _=>rfl⟩
end Go.Proofs.YtgoelphibofcmaaGreat.V

namespace Go.Proofs.YtgoelphibofcmaaGreat.V
open Go.RowKit
attribute [local irreducible] dD wpOps gI Call
attribute [local go_sem] aK fW eU gE gy cE upd ck K.av cN AV.cells AV.cell rowOf rowsOf part ld rowAt bB bY dO ev iI bK db eI gr e8 dx eB cZ cY ea ec bQ aY cQ bP cU cR ez eC eA cP bV da ew bL aL cW cF iH bz cK bR aU dh aT dP AV.undef bF bG eh eu dX dY cI eH eK cD eE eD cV cX List.getD_cons_zero List.getD_cons_succ List.getD_nil List.all_cons List.all_nil Bool.and_true Bool.true_and Bool.and_self Bool.not_true Bool.not_false Option.map_some Option.map_none Option.bind_some Option.bind_none List.length_cons List.length_nil List.take_succ_cons List.take_zero List.take_nil List.drop_succ_cons List.drop_zero List.drop_nil List.head?_cons List.map_cons List.map_nil List.getElem?_cons_zero List.getElem?_cons_succ List.cons_append List.nil_append List.append_nil List.length_map List.set_cons_zero List.set_cons_succ Nat.reduceMul eq_self Int.toNat_natCast Int.natCast_nonneg and_self true_and and_true decide_true decide_false Bool.false_eq_true Nat.zero_add Nat.add_zero List.contains_cons List.contains_nil Bool.or_false Bool.false_or beq_self_eq_true Nat.reduceBEq ne_eq not_true_eq_false not_false_eq_true Id.mk.injEq false_and and_false Nat.reduceLT Int.reduceLE Int.reduceLT Int.reduceToNat Int.reduceNeg Int.reduceAdd Nat.le_refl List.length_append beq_true beq_false Bool.not_eq_eq_eq_not or_false false_or dQ aj aq aH bd bE cm aW bc aN bf cL bU
theorem Fg (s:aB) (hS:jx s.aC s.bh.ah) (l:List ae) (hA:gQ l) (ps X:List ai) (hl:ps.length<=1048576) (o A S:Id) (σ:ar) (ho:σ.get o=some ⟨true,2,(ps++X).map aa⟩) (Rb:σ.get A=some ⟨true,1,[[.sl (l.map ad)]]⟩) (hgS:σ.get S=some ⟨true,4,[au s]⟩) (lQ:o.aZ<σ.next) (hAv:A.aZ<σ.next) (hSv:S.aZ<σ.next) (hoA:o≠A) (hoS:o≠S):
  Call Tryz.prog 114 [.own o 0 ps.length,.fn 116 [.ptr A 0 0,.ptr S 0 0]] σ fun r σ'=>∃rows,r=.own o 0 (ei (fb s l) ps).length/\σ'.get o=some ⟨true,2,rows⟩/\rows.take (ei (fb s l) ps).length=(ei (fb s l) ps).map aa/\(ei (fb s l) ps).length<=rows.length/\σ.next<=σ'.next/\∀i:Id,i.aZ<σ.next->i≠o->σ'.get i=σ.get i:=by
 refine gW eG rfl fun mu=>?_
 clear mu
 have zX:=FC s hS l hA ps hl
 have hzA:∀(g:Rows) (n:Nat),g A=some ⟨true,1,[[.sl (l.map ad)]]⟩->V.fz (dQ g) (n+1+1) (.ptr A 0 0)=some (.cr [.sl (l.map ad)]):=fun g n hg=>rO (sz:=1) (rows:=[[.sl (l.map ad)]]) (by simp[dQ,hg]) rfl (by simp only[List.drop_zero,aj,aq,cm,Option.map_some])
 have hzS:∀(g:Rows) (n:Nat),g S=some ⟨true,4,[au s]⟩->V.fz (dQ g) (n+1+1) (.ptr S 0 0)=some (.cr (au s)):=fun g n hg=>rO (sz:=4) (rows:=[au s]) (by simp[dQ,hg]) rfl (by simp only[au,List.drop_zero,aj,aq,cm,aH,Option.map_some])
 have tM:∀(g:Rows),g A=some ⟨true,1,[[.sl (l.map ad)]]⟩->g S=some ⟨true,4,[au s]⟩->g o=some ⟨true,2,(ps++X).map aa⟩->cG (dQ g) 6 [.own o 0 ps.length,.fn 116 [.ptr A 0 0,.ptr S 0 0]]=some [.sl (ps.map aa),.fn 116 [.cr [.sl (l.map ad)],.cr (au s)]]:=fun g h1 h2 h3=>by
  have q1:V.fz (dQ g) 6 (.own o 0 ps.length)=some (.sl (ps.map aa)):=by
   rw[gT]
   have:dQ g o=some ⟨true,2,(ps++X).map aa⟩:=by simp[dQ,h3]
   simp only[this,if_true]
   have h4:((ps++X).map aa).take ps.length=ps.map aa:=by rw[<-List.map_take,List.take_append_of_le_length (Nat.le_refl _),List.take_length]
   rw[if_pos (by simp),List.drop_zero,h4,ml fun x=>by simp only[aa,aj,aq,aH,Option.map_some]];rfl
  have q2:=hzA g 3 h1
  have q3:=hzS g 3 h2
  simp only[aj,aq,q1,cL,List.all_cons,List.all_nil,AV.cell,Bool.and_true,if_true,q2,q3,Option.map_some]
 have kh:∀(g:Rows),g A=some ⟨true,1,[[.sl (l.map ad)]]⟩->g S=some ⟨true,4,[au s]⟩->∀b:ai,cG (dQ g) 6 [.agg (aa b),.ptr A 0 0,.ptr S 0 0]=some [.agg (aa b),.cr [.sl (l.map ad)],.cr (au s)]:=fun g h1 h2 b=>by
  have q2:=hzA g 4 h1
  have q3:=hzS g 4 h2
  simp only[aj,aq,bc,aa,aH,q2,q3,Option.map_some]
 have mo:(ps++X).length=ps.length+X.length:=List.length_append
 have mZ:∀j,j<=ps.length->(ps++X).take j=ps.take j:=fun j hj=>List.take_append_of_le_length hj
 have oH:∀j (hj:j<ps.length),(ps++X)[j]'(by rw[mo];omega)=ps[j]:=fun j hj=>List.getElem_append_left hj
 (try((repeat(revert hN;revert N;apply Pn.out));refine wk @Nat.zero_add ?_;(repeat(refine Pn.mk ?_;intro N hN))))
 refine .inl ⟨_,ao.x zX (tM _ Rb hgS ho),?_⟩
 refine hN _ _ ?_
 clear hN N
 by_cases h0:0<=im (fb s l) ps
 ·obtain⟨i,hi,El,S4,HW⟩:=Cu h0
  rw[El]at *
  have Fw:decide ((i:Int)= -1)=false:=decide_eq_false (by omega)
  have LO:IntKind.i64.wrap ((i:Int)+1)=((i+1:Nat):Int):=ax (by omega)
  obtain⟨dc,AW⟩:=Gz.start (p:=fb s l) (bs:=ps++X) (i:=i) (by rw[mo];omega) (by rw[oH i hi];exact S4) (fun x hx=>by rw[oH x (by omega)];exact HW x hx)
  (try((repeat(revert hN;revert N;apply Pn.out));refine wk (tw @Fw @LO) ?_;(repeat(refine Pn.mk ?_;intro N hN))))
  refine aJ (fun m env st=>∃(j:Nat) (R:List ai),m=ps.length-j/\env 6=.int .i64 (j:Int)/\env 5=.int .i64 ((ei (fb s l) (ps.take j)).length:Int)/\st.get o=some ⟨true,2,R.map aa⟩/\Gz (fb s l) (ps++X) j R/\j<=ps.length/\σ.next<=st.next/\∀x:Id,x.aZ<σ.next->(x=o)=False->st.get x=σ.get x) (ps.length-(i+1)) ⟨i+1,ps++X,rfl,sd @LO,by rw[<-mZ (i+1) (by omega)];simp only[go_sem, ↓reduceIte,Nat.reduceEqDiff,Nat.reduceAdd,Nat.reduceSub,Nat.reduceLeDiff,reduceCtorEq,AW],sd @ho,dc,by omega,by(try dsimp only);omega,fun x _ _=>sd @Nat.zero_add⟩ ?_
  rintro m env_b st_b ⟨j,R,rfl,b6,b5,bg,hD,gw,hle,jq⟩ ej
  have b0:=ej 0 (by kernel_rfl)
  have b1:=ej 1 (by kernel_rfl)
  simp only[go_sem, ↓reduceIte,Nat.reduceEqDiff,Nat.reduceAdd,Nat.reduceSub,Nat.reduceLeDiff,reduceCtorEq]at b0 b1
  clear ej
  have bA:=(jq A hAv (by simp only[eq_iff_iff,iff_false];exact fun h=>hoA h.symm)).trans Rb
  have bS:=(jq S hSv (by simp only[eq_iff_iff,iff_false];exact fun h=>hoS h.symm)).trans hgS
  have iY:=dw (i:=o) (n:=st_b.next) (by omega)
  have hvA:=dw (i:=A) (n:=st_b.next) (by omega)
  have hvS:=dw (i:=S) (n:=st_b.next) (by omega)
  have QZ:=hD.len
  rw[mo]at QZ
  have MV:(R.map aa).length=ps.length+X.length:=by rw[List.length_map,QZ]
  have dz:=hD.lt
  by_cases hj:(j:Int)<(ps.length:Int)
  ·have nu:j<ps.length:=by omega
   have SH:j<(ps++X).length:=by omega
   have Ej:=hD.at_ SH
   have Kr:=BQ s hS l hA (ps++X)[j]
   have Kq:IntKind.i64.wrap ((j:Int)+1)=((j+1:Nat):Int):=ax (by omega)
   have Pj:=hD.N4 SH
   have Pk:=hD.pg SH
   rw[mZ j (by omega)]at Pj Pk dz
   rw[mZ (j+1) (by omega)]at Pj Pk
   generalize (ps++X)[j]=b at *
   (try((repeat(revert hN;revert N;apply Pn.out));refine wk (tw @b0 (tw @b1 (tw @b5 (tw @b6 (tw @bg (tw @hj (tw @Ej (tw @aa.eq_1 (tw @iY (tw @hvA (tw @hvS @MV))))))))))) ?_;(repeat(refine Pn.mk ?_;intro N hN))))
   refine .inl ⟨_,ao.x Kr (kh _ (sd (tw @hvA @bA)) (sd (tw @hvS @bS)) b),?_⟩
   refine hN _ _ ?_
   clear hN N
   cases hw:fb s l b
   ·obtain⟨MM,ML⟩:=Pk hw
    have M1:((ei (fb s l) (ps.take j)).length:Int)<(ps.length:Int):=by omega
    have P8:IntKind.i64.wrap (((ei (fb s l) (ps.take j)).length:Int)+1)=(((ei (fb s l) (ps.take j)).length+1:Nat):Int):=ax (by omega)
    have eO:(R.map aa).set (ei (fb s l) (ps.take j)).length [.int .i64 b.eM,.int .i64 b.ep]=(R.set (ei (fb s l) (ps.take j)).length b).map aa:=by rw[List.map_set];rfl
    have J9:∃y,(R.map aa)[(ei (fb s l) (ps.take j)).length]? =some (aa y):=⟨R[(ei (fb s l) (ps.take j)).length]'(by omega),by rw[List.getElem?_map,List.getElem?_eq_getElem (by omega)];rfl⟩
    obtain⟨y,J9⟩:=J9
    rw[aa]at J9
    (try((repeat(revert hN;revert N;apply Pn.out));refine wk (tw @b0 (tw @b1 (tw @b5 (tw @b6 (tw @bg (tw @hw (tw @Kq (tw @P8 (tw @M1 (tw @eO (tw @J9 (tw @iY @MV)))))))))))) ?_;(repeat(refine Pn.mk ?_;intro N hN))))
    refine⟨_,?_,j+1,_,rfl,sd @Kq,sd (tw @P8 @ML),sd @eO,MM,by omega,by(try dsimp only);omega,fun x hx tp=>?_⟩
    ·omega
    ·have JH:=dw (i:=x) (n:=st_b.next) (by omega)
     have:=jq x hx tp
     simp only[go_sem, ↓reduceIte,Nat.reduceEqDiff,Nat.reduceAdd,Nat.reduceSub,Nat.reduceLeDiff,reduceCtorEq,JH,this,tp]
   ·obtain⟨MM,ML⟩:=Pj hw
    (try((repeat(revert hN;revert N;apply Pn.out));refine wk (tw @b0 (tw @b1 (tw @b5 (tw @b6 (tw @hw @Kq))))) ?_;(repeat(refine Pn.mk ?_;intro N hN))))
    refine⟨_,?_,j+1,R,rfl,sd @Kq,sd (tw @b5 @ML),sd (tw @bg @iY),MM,by omega,by(try dsimp only);omega,fun x hx tp=>?_⟩
    ·omega
    ·have JH:=dw (i:=x) (n:=st_b.next) (by omega)
     have:=jq x hx tp
     simp only[go_sem, ↓reduceIte,Nat.reduceEqDiff,Nat.reduceAdd,Nat.reduceSub,Nat.reduceLeDiff,reduceCtorEq,JH,this]
  ·have gw:j=ps.length:=by omega
   subst gw
   have pe:=hD.pre
   rw[mZ _ (Nat.le_refl _)]at dz pe
   rw[List.take_length]at b5 dz pe
   have M1:((ei (fb s l) ps).length:Int)<=(ps.length:Int):=by omega
   have M3:(ei (fb s l) ps).length<=ps.length:=by omega
   have nZ:(ei (fb s l) ps).length+(ps.length-(ei (fb s l) ps).length)=ps.length:=by omega
   have lz:ps.length<=ps.length+X.length:=by omega
   (try((repeat(revert hN;revert N;apply Pn.out));refine wk (tw @b0 (tw @b1 (tw @b5 (tw @b6 (tw @bg (tw @hj (tw @MV (tw @M1 (tw @M3 (tw @nZ (tw @lz (tw @Nat.le_refl (tw @Nat.sub_zero (tw @Int.le_refl @iY)))))))))))))) ?_;(repeat(refine Pn.mk ?_;intro N hN))))
   have hm:List.take (ei (fb s l) ps).length (List.map aa R)=(ei (fb s l) ps).map aa:=by rw[<-List.map_take,pe]
   refine gK (.inl rfl) (vs:=[.own o 0 (ei (fb s l) ps).length]) (sd @Nat.zero_add) ⟨_,rfl,by simp only[go_sem, ↓reduceIte,Nat.reduceEqDiff,Nat.reduceAdd,Nat.reduceSub,Nat.reduceLeDiff,reduceCtorEq];rfl,?_,?_,by(try dsimp only);omega,fun x hx tp=>?_⟩
   ·rw[hm,List.append_assoc,List.take_append_of_le_length (by simp),List.take_of_length_le (by simp)]
   ·rw[hm]
    simp only[List.length_append,List.length_map]
    omega
   ·have H6:(x=o)=False:=by simp only[eq_iff_iff,iff_false];exact tp
    have:=jq x hx H6
    simp only[go_sem, ↓reduceIte,Nat.reduceEqDiff,Nat.reduceAdd,Nat.reduceSub,Nat.reduceLeDiff,reduceCtorEq,H6,this]
 ·have hn:=Ct h0
  have dc:=uV (p:=fb s l) hn
  have hd:decide (im (fb s l) ps= -1)=true:=decide_eq_true (by
   unfold im at h0 ⊢
   split
   ·rename_i h;rw[if_pos h]at h0;omega
   ·rfl)
  (try((repeat(revert hN;revert N;apply Pn.out));refine wk @hd ?_;(repeat(refine Pn.mk ?_;intro N hN))))
  refine gK (.inl rfl) (vs:=[.own o 0 ps.length]) (sd @Nat.zero_add) ⟨(ps++X).map aa,by rw[dc];rfl,sd @ho,by rw[dc,<-List.map_take,List.take_append_of_le_length (Nat.le_refl _),List.take_length],by rw[dc];simp,by(try dsimp only);omega,fun x _ _=>rfl⟩
end Go.Proofs.YtgoelphibofcmaaGreat.V

namespace Go.Proofs.YtgoelphibofcmaaGreat.V
open Go.RowKit
attribute [local irreducible] dD wpOps gI Call
attribute [local go_sem] aK fW eU gE gy cE upd ck K.av cN AV.cells AV.cell rowOf rowsOf part ld rowAt bB bY dO ev iI bK db eI gr e8 dx eB cZ cY ea ec bQ aY cQ bP cU cR ez eC eA cP bV da ew bL aL cW cF iH bz cK bR aU dh aT dP AV.undef bF bG eh eu dX dY cI eH eK cD eE eD cV cX List.getD_cons_zero List.getD_cons_succ List.getD_nil List.all_cons List.all_nil Bool.and_true Bool.true_and Bool.and_self Bool.not_true Bool.not_false Option.map_some Option.map_none Option.bind_some Option.bind_none List.length_cons List.length_nil List.take_succ_cons List.take_zero List.take_nil List.drop_succ_cons List.drop_zero List.drop_nil List.head?_cons List.map_cons List.map_nil List.getElem?_cons_zero List.getElem?_cons_succ List.cons_append List.nil_append List.append_nil List.length_map List.set_cons_zero List.set_cons_succ Nat.reduceMul eq_self Int.toNat_natCast Int.natCast_nonneg and_self true_and and_true decide_true decide_false Bool.false_eq_true Nat.zero_add Nat.add_zero List.contains_cons List.contains_nil Bool.or_false Bool.false_or beq_self_eq_true Nat.reduceBEq ne_eq not_true_eq_false not_false_eq_true Id.mk.injEq false_and and_false Nat.reduceLT Int.reduceLE Int.reduceLT Int.reduceToNat Int.reduceNeg Int.reduceAdd Nat.le_refl List.length_append beq_true beq_false Bool.not_eq_eq_eq_not or_false false_or dQ aj aq aH bd bE cm aW bc aN bf cL bU
theorem s4:∀ps:List ai,∃qs,kX qs/\(∀x,x∈qs↔x∈ps)/\qs.length<=ps.length
 |[]=>⟨[],List.Pairwise.nil,fun x=>Iff.rfl,Nat.le_refl _⟩
 |p::r=>by
  obtain⟨qs,h1,h2,h3⟩:=s4 r
  exact⟨mD qs p,vH h1 p,fun x=>by rw[qL,h2,List.mem_cons],by have:=vG qs p;rw[List.length_cons];omega⟩
theorem Mi {l:List ae} (hR:uc l) {j:Nat} (hj:j<l.length):fH l (aG l j).aF=(aG l j).aQ:=by
 have h0:0<=ek l (aG l j).aF:=by
  rcases Int.lt_or_le (ek l (aG l j).aF) 0 with h|h
  ·exact absurd rfl (uU.1 h _ (ig hj))
  ·exact h
 obtain⟨h1,h2⟩:=mv h0
 have h3:(ek l (aG l j).aF).toNat=j:=by
  rcases Nat.lt_trichotomy (ek l (aG l j).aF).toNat j with h|h|h
  ·have:=hR _ _ h hj
   rw[h2,mz]at this;cases this
  ·exact h
  ·have:=hR _ _ h h1
   rw[h2,mz]at this;cases this
 rw[fH,if_pos h0,h3]
theorem sU (s:aB) (l:List ae) (x:ai):∀i,x∈dR s l i↔x∈vm l∨∃j,j<i/\x=(aG l j).aF/\fH s.bh.ah x≠(aG l j).aQ
 |0=>by simp[dR]
 |i+1=>by
  have ih:=sU s l x i
  rw[dR]
  split
  ·rename_i h
   rw[ih]
   constructor
   ·rintro(h1|⟨j,h1,h2⟩)
    ·exact .inl h1
    ·exact .inr ⟨j,by omega,h2⟩
   ·rintro(h1|⟨j,h1,h2,h3⟩)
    ·exact .inl h1
    ·by_cases hj:j=i
     ·subst hj;rw[h2]at h3;exact absurd h h3
     ·exact .inr ⟨j,by omega,h2,h3⟩
  ·rename_i h
   rw[qL,ih]
   constructor
   ·rintro(h1|h1|⟨j,h1,h2⟩)
    ·exact .inr ⟨i,by omega,h1,by rw[h1];exact h⟩
    ·exact .inl h1
    ·exact .inr ⟨j,by omega,h2⟩
   ·rintro(h1|⟨j,h1,h2,h3⟩)
    ·exact .inr (.inl h1)
    ·by_cases hj:j=i
     ·subst hj;exact .inl h2
     ·exact .inr (.inr ⟨j,by omega,h2,h3⟩)
theorem FK {p:ai->Bool} {qs:List ai} (h:kX qs):kX (ei p qs):=List.Pairwise.sublist List.filter_sublist h
theorem C1 (s:aB) (l:List ae) (hA:jx s.aC l) {qs:List ai} (hR:kX qs) (hm:∀x,x∈qs↔x∈kU l):ei (fb s l) qs=bW s l:=by
 refine zt (FK hR) (lh s l _) fun x=>?_
 unfold ei bW
 rw[List.mem_filter,hm,tQ,sU,xR]
 unfold GY
 constructor
 ·rintro⟨⟨t,ht,h1⟩,h2⟩
  by_cases h0:ek l x<0
  ·left
   rcases h1 with h1|⟨k,hk,h1,h3⟩
   ·exact absurd h1.symm (uU.1 h0 t ht)
   ·obtain⟨i,hi,rfl⟩:=List.getElem_of_mem ht
    exact⟨h3,h0,i,k,hi,hk,by rw[iE hi];exact h1⟩
  ·right
   obtain⟨h4,h5⟩:=mv (l:=l) (p:=x) (by omega)
   refine⟨_,h4,h5.symm,fun e=>?_⟩
   have h6:fH l x=(aG l (ek l x).toNat).aQ:=by rw[fH,if_pos (by omega)]
   have h7:=hA.2 _ (ig h4)
   have h8:=(eb h7).1
   simp[fb,h6,e]at h2
   omega
 ·rintro(⟨h1,h2,i,d,h3,h4,h5⟩|⟨j,h1,h2,h3⟩)
  ·refine⟨⟨aG l i,ig h3,.inr ⟨d,h4,h5,h1⟩⟩,?_⟩
   have h6:fH l x= -1:=by rw[fH,if_neg (by omega)]
   simp[fb,h6]
  ·refine⟨⟨aG l j,ig h1,.inl h2⟩,?_⟩
   have h6:fH l x=(aG l j).aQ:=by rw[h2];exact Mi hA.1.F9 h1
   simp[fb,h6,h3]
theorem K9 (s:aB) (hP:ue s) (l:List ae) (hA:jx s.aC l) (h0:l≠[]) (σ:ar):Call Tryz.prog 70 [.agg (au s),.agg [.sl (l.map ad)]] σ (fun r σ'=>Lm σ.next (ph s l (bW s l)) r σ'.get σ'.next):=by
 refine gW eG rfl fun mu=>?_
 clear mu
 obtain⟨qs,hR,hm,hqa⟩:=s4 (kU l)
 have Re:=C1 s l hA hR hm
 have AJ:=hA.1.sH
 have S6:qs.length<=10000:=by have:=tu l;omega
 (try((repeat(revert hN;revert N;apply Pn.out));refine wk @au.eq_1 ?_;(repeat(refine Pn.mk ?_;intro N hN))))
 refine .inr (aV _ _ _ _ _ (fun r σ1 hq=>?_) (zi s hP.set l hA _))
 obtain⟨g1,x1⟩:=σ1
 obtain⟨c,T,O,rfl,hC,Su,Q1,hOv,iU,jq⟩:=hq
 (try dsimp only at hC Su Q1 hOv iU jq)
 have f1:=jq ⟨70000000,σ.next⟩ (by(try dsimp only);omega)
 have f2:=jq ⟨70000001,σ.next⟩ (by(try dsimp only);omega)
 simp only[go_sem, ↓reduceIte,Nat.reduceEqDiff,Nat.reduceAdd,Nat.reduceSub,Nat.reduceLeDiff,reduceCtorEq]at f1 f2
 refine hN _ _ ?_
 clear hN N
 (try((repeat(revert hN;revert N;apply Pn.out));refine wk (tw @f1 @f2) ?_;(repeat(refine Pn.mk ?_;intro N hN))))
 have Lv:pC (bB (bB g1 ⟨70001003,x1⟩ ⟨true,1,[[.gj]]⟩) ⟨70001003,x1⟩ ⟨true,1,[[.ptr c 0 0]]⟩) (x1+1+1) c T O s l:=hC.frame (by omega) fun x hx=>by
  have h1:=dw hx
  simp only[go_sem, ↓reduceIte,Nat.reduceEqDiff,Nat.reduceAdd,Nat.reduceSub,Nat.reduceLeDiff,reduceCtorEq,h1]
 refine .inr (aV _ _ _ _ _ (fun r σ2 hq=>?_) (G8 (σ:=⟨bB (bB g1 ⟨70001003,x1⟩ ⟨true,1,[[.gj]]⟩) ⟨70001003,x1⟩ ⟨true,1,[[.ptr c 0 0]]⟩,x1+1+1⟩) Lv hA.1 h0 qs hR hm))
 obtain⟨g2,x2⟩:=σ2
 obtain⟨o,X,rfl,ho,lQ,Rp,PT,uJ,hT2⟩:=hq
 (try dsimp only at ho lQ Rp PT uJ hT2)
 have M3:=hC.cv
 have hTn:=hC.tv
 have hOn:=hC.ov
 have nT:∀x:Id,x.aZ<T.aZ∨T.aZ<x.aZ->x≠T:=fun x h e=>by subst e;omega
 have gS:=uJ ⟨70000000,σ.next⟩ (by(try dsimp only);omega) (nT _ (by(try dsimp only);omega))
 have gA:=uJ ⟨70000001,σ.next⟩ (by(try dsimp only);omega) (nT _ (by(try dsimp only);omega))
 have gC:=uJ ⟨70001003,x1⟩ (by(try dsimp only);omega) (nT _ (by(try dsimp only);omega))
 have gc:=(uJ c (by omega) hC.cT).trans Lv.row
 simp only[go_sem, ↓reduceIte,Nat.reduceEqDiff,Nat.reduceAdd,Nat.reduceSub,Nat.reduceLeDiff,reduceCtorEq,f1,f2]at gS gA gC
 refine hN _ _ ?_
 clear hN N
 (try((repeat(revert hN;revert N;apply Pn.out));refine wk (tw @gS (tw @gA @gC)) ?_;(repeat(refine Pn.mk ?_;intro N hN))))
 refine .inr (aV _ _ _ _ _ (fun r σ3 hq=>?_) (Fg s hP.Bw l hA.1 qs X (by omega) o ⟨70000001,σ.next⟩ ⟨70000000,σ.next⟩ ⟨g2,_⟩ ho gA (by rw[au];exact gS) (by(try dsimp only);omega) (by(try dsimp only);omega) (by(try dsimp only);omega) (fun e=>by rw[e]at lQ;(try dsimp only at lQ);omega) (fun e=>by rw[e]at lQ;(try dsimp only at lQ);omega)))
 obtain⟨g3,x3⟩:=σ3
 obtain⟨rows,rfl,R0,R3,h3l,SR,Ft⟩:=hq
 (try dsimp only at R0 R3 h3l SR Ft)
 have kW:=FJ (fb s l) qs
 rw[Re]at R3 h3l kW ⊢
 have oS:(⟨70000000,σ.next⟩:Id)≠o:=fun e=>by rw[<-e]at lQ;(try dsimp only at lQ);omega
 have oA:(⟨70000001,σ.next⟩:Id)≠o:=fun e=>by rw[<-e]at lQ;(try dsimp only at lQ);omega
 have oC:(⟨70001003,x1⟩:Id)≠o:=fun e=>by rw[<-e]at lQ;(try dsimp only at lQ);omega
 have oc:c≠o:=fun e=>by rw[<-e]at lQ;omega
 have oT:T≠o:=fun e=>by rw[<-e]at lQ;omega
 have kS:=(Ft ⟨70000000,σ.next⟩ (by(try dsimp only);omega) oS).trans gS
 have kA:=(Ft ⟨70000001,σ.next⟩ (by(try dsimp only);omega) oA).trans gA
 have kC:=(Ft ⟨70001003,x1⟩ (by(try dsimp only);omega) oC).trans gC
 have kc:=(Ft c (by omega) oc).trans gc
 have kT:=(Ft T (by omega) oT).trans hT2
 refine hN _ _ ?_
 clear hN N
 (try((repeat(revert hN;revert N;apply Pn.out));refine wk (tw @kS (tw @kA @kC)) ?_;(repeat(refine Pn.mk ?_;intro N hN))))
 have nY:rows=(bW s l).map aa++rows.drop (bW s l).length:=by rw[<-R3,List.take_append_drop]
 rw[nY]at R0
 refine .inr (aV _ _ _ _ _ (fun r σ4 hq=>?_) (Gn (σ:=⟨g3,_⟩) (T:=T) (O:=O) (s:=s) (l:=l) ⟨⟨_,kA⟩,⟨_,by rw[au];exact kS⟩,⟨_,kC⟩,⟨⟨_,kc⟩,⟨_,kT⟩,by(try dsimp only);omega,by(try dsimp only);omega,by(try dsimp only);omega⟩,by(try dsimp only);omega,by(try dsimp only);omega,by(try dsimp only);omega⟩ hP.set hA (bW s l) (rows.drop (bW s l).length) (by omega) (mj s hA.1 _ (Nat.le_refl _)) o (by(try dsimp only);omega) R0))
 obtain⟨g4,x4⟩:=σ4
 (try dsimp only at hq)
 refine hN _ _ ?_
 clear hN N
 rcases hq with⟨h2,h3⟩|⟨u,h2,h3,h4,h5,h6,h8⟩
 ·subst h3
  (try((repeat(revert hN;revert N;apply Pn.out));refine wk @Nat.zero_add ?_;(repeat(refine Pn.mk ?_;intro N hN))))
  exact gK (.inl rfl) (vs:=[.cj]) (sd @Nat.zero_add) (.inl ⟨h2,rfl⟩)
 ·subst h2
  (try((repeat(revert hN;revert N;apply Pn.out));refine wk @Nat.zero_add ?_;(repeat(refine Pn.mk ?_;intro N hN))))
  exact gK (.inl rfl) (vs:=[.own u 0 (ph s l (bW s l)).length]) (sd @Nat.zero_add) (.inr ⟨u,rfl,h3,by omega,by(try dsimp only);omega,h6,h8⟩)
end Go.Proofs.YtgoelphibofcmaaGreat.V

namespace Go.Proofs.YtgoelphibofcmaaGreat.V
open Go.RowKit Go.Shelf
attribute [local go_sem] Oper.semAt_some
structure o8 (W:World) (v:Value) (l:List ae):Prop where
 sl:∃A c,v=.slice A l.length c/\(l.length<=c/\c<=maxLen)/\(l=[]∨∃b o,A=some ⟨b,o,none⟩/\∀i,i<l.length->W.cell? ⟨b,o+(i*3+0),none⟩=some (.int .i64 (aG l i).aF.eM)/\W.cell? ⟨b,o+(i*3+1),none⟩=some (.int .i64 (aG l i).aF.ep)/\W.cell? ⟨b,o+(i*3+2),none⟩=some (.int .i64 (aG l i).aQ))
structure GW (K:World->World->Prop) (v:Value) (l:List ae):Prop where
 refl:∀W,K W W
 trans:∀{A B C:World},K A B->K B C->K A C
 of:∀{W W':World},Below W.heap.size W W'->K W W'
 size:∀{W W':World},K W W'->W.heap.size<=W'.heap.size
 typed:∀{W W':World},K W W'->∀(b:Nat) (cells:Array Value) (T:TypeId) (fr:Nat×Nat),W.heap[b]? =some (Obj.cells cells T fr)->T≠226->T≠246->W'.heap[b]? =W.heap[b]?
 pl:∀{W W':World},K W W'->o8 W v l->o8 W' v l
theorem tA {W:World} {b x:Nat} {v:Value} (h:W.cell? ⟨b,x,none⟩=some v):b<W.heap.size:=by
 rcases Nat.lt_or_ge b W.heap.size with h1|h1
 ·exact h1
 ·simp[World.cell?,Array.getElem?_eq_none h1]at h
theorem o8.below {W W':World} {v:Value} {l:List ae} (h:o8 W v l) (k:Below W.heap.size W W'):o8 W' v l:=by
 obtain⟨A,c,rfl,hm,hc⟩:=h.sl
 refine⟨A,c,rfl,hm,?_⟩
 rcases hc with h0|⟨b,o,rfl,j5⟩
 ·exact .inl h0
 ·refine .inr ⟨b,o,rfl,fun i hi=>?_⟩
  obtain⟨h1,h2,h3⟩:=j5 i hi
  have hb:=tA h1
  exact⟨(k.cell (p:=⟨b,_,none⟩) hb).trans h1,(k.cell (p:=⟨b,_,none⟩) hb).trans h2,(k.cell (p:=⟨b,_,none⟩) hb).trans h3⟩
theorem o8.eF {P:Program} {W:World} {v:Value} {l:List ae} (h:o8 W v l):js P W (fun b=>b<W.heap.size) (.sl (l.map ad)) v:=by
 obtain⟨A,c,rfl,hm,hc⟩:=h.sl
 rcases hc with rfl|⟨b,o,rfl,j5⟩
 ·exact .z8 A c (by simpa using hm.2)
 by_cases AM:l=[]
 ·subst AM;exact .z8 _ c (by simpa using hm.2)
 ·have k5:0<l.length:=List.length_pos_iff.2 AM
  have hb:=tA (j5 0 k5).1
  refine .sl (l.map ad) b o l.length c 3 (fun i j=>if j=0 then .int .i64 (aG l i).aF.eM else if j=1 then .int .i64 (aG l i).aF.ep else .int .i64 (aG l i).aQ) (by simp) hm.1 hm.2 hb (fun cs dn=>?_) (fun cs dn a ha=>?_) (fun i j hi hj=>?_) (fun i j cs a hi hj=>?_)
  ·obtain⟨x,_,rfl⟩:=List.mem_map.1 dn;rfl
  ·obtain⟨x,_,rfl⟩:=List.mem_map.1 dn
   simp[ad]at ha
   rcases ha with rfl|rfl|rfl<;>rfl
  ·obtain⟨h1,h2,h3⟩:=j5 i hi
   match j,hj with
   |0,_=>exact h1
   |1,_=>exact h2
   |2,_=>exact h3
   |j+3,hj=>omega
  ·have ly:i<l.length:=by have:=(List.getElem?_eq_some_iff.1 hi).1;simpa using this
   rw[fm ly]at hi
   injection hi with hi
   subst hi
   match j,hj with
   |0,hj=>simp[ad]at hj;subst hj;exact .int _ _
   |1,hj=>simp[ad]at hj;subst hj;exact .int _ _
   |2,hj=>simp[ad]at hj;subst hj;exact .int _ _
   |j+3,hj=>simp[ad]at hj
theorem An {P:Program} (hm:P.follows .mixedOrders=true) {f:Nat} {args:List AV} {vs:Array Value} {w:World} {r:AV} (h:ao P f args r) (hr:∀g r0,fY g 6 r0=some r->r0=r) (hA:fh P w (fun b=>b<w.heap.size) (fun _=>none) args vs):
  Calls P f vs w fun e w'=>∃D ι u,e=.returned u/\cq P w' D ι r u/\Below w.heap.size w w':=by
 have hs:=fR hm (h 0) w.heap.size (fun b=>b<w.heap.size) (fun _=>none) w vs ⟨Nat.le_refl _,fun _ h=>h,fun id r h=>(by cases h),fun id jJ r r' B B' h=>(by cases h)⟩ (fun id h=>absurd rfl h) hA
 refine hs.mono ?_
 rintro e w' ⟨r0,g',n',D',ι',u,rfl,⟨r',hz,rfl⟩,dc,hsim,_,_,gp⟩
 have:=hr _ _ hz
 subst this
 exact⟨D',ι',u,rfl,gp,dc.below⟩
theorem nW {g:Rows} {n:Nat} {a:AV} {k:IntKind} {m:Int} (h:fY g (n+1) a=some (.int k m)):a=.int k m:=by
 cases a<;>rw[fY]at h<;>simp_all
 all_goals (repeat' (split at h))<;>simp_all
theorem CC {g:Rows} {a:AV} {x y:Int} (h:fY g 6 a=some (.agg [.int .i64 x,.int .i64 y])):a=.agg [.int .i64 x,.int .i64 y]:=by
 cases a with
 |agg cs=>
  rw[j8]at h
  simp only[Option.map_eq_some_iff,AV.agg.injEq,exists_eq_right]at h
  match cs,h with
  |[],h=>rw[bt]at h;simp at h
  |[a],h=>
   rw[aP,bt]at h
   cases ha:fY g 5 a<;>simp[ha]at h
  |[a,b],h=>
   rw[aP,aP,bt]at h
   cases ha:fY g 5 a<;>cases hb:fY g 5 b<;>simp[ha,hb]at h
   obtain⟨rfl,rfl⟩:=h
   rw[nW ha,nW hb]
  |a::b::c::r,h=>
   rw[aP,aP,aP]at h
   cases ha:fY g 5 a<;>cases hb:fY g 5 b<;>cases hc:fY g 5 c<;>cases hd:dS g 5 r<;>simp[ha,hb,hc,hd]at h
 |_=>rw[fY]at h<;>simp_all<;>(repeat' (split at h))<;>simp_all
theorem Dw (W:World) (p:ai) (d:Int) (hd:iP d 0 3=true) (hx:iB p.eM) (hy:iB p.ep):Calls Tryz.prog 149 #[.agg #[.int .i64 p.eM,.int .i64 p.ep],.int .i64 d] W fun e W'=>e=.returned (.agg #[.int .i64 (bJ p d).eM,.int .i64 (bJ p d).ep])/\Below W.heap.size W W':=by
 refine(An mixed (vZ p d hd hx hy) (fun g r0 h=>CC h) ?_:Calls _ _ _ _ _).mono ?_
 ·exact lV (vs:= #[.int .i64 d]) (.agg _ _ (fun j=>if j=0 then .int .i64 p.eM else .int .i64 p.ep) rfl (fun a ha=>by simp[aa]at ha;rcases ha with rfl|rfl<;>rfl) (fun j hj=>by match j,hj with|0,_=>rfl|1,_=>rfl|j+2,hj=>simp[aa]at hj;omega) (fun j a ha=>by match j,ha with|0,ha=>simp[aa]at ha;subst ha;exact .int _ _|1,ha=>simp[aa]at ha;subst ha;exact .int _ _|j+2,ha=>simp[aa]at ha)) (lV (vs:= #[]) (.int _ _) vK)
 ·rintro e W' ⟨D,ι,u,rfl,hr,hB⟩
  refine⟨?_,hB⟩
  obtain⟨vs,f,rfl,e9,_,h1,h2⟩:=iF hr
  have v0:=h1 0 (by simp[aa])
  have v1:=h1 1 (by simp[aa])
  rw[dp (h2 0 _ rfl)]at v0
  rw[dp (h2 1 _ rfl)]at v1
  obtain⟨vl⟩:=vs
  match vl,e9 with
  |[a,b],_=>
   simp at v0 v1
   rw[v0,v1]
theorem wY (W:World) (l:List ae) (v:Value) (hP:o8 W v l) (p:ai) (hR:uc l) (Fq:l.length<=1048576):Calls Tryz.prog 265 #[.agg #[v],.agg #[.int .i64 p.eM,.int .i64 p.ep]] W fun e W'=>e=.returned (.int .i64 (ek l p))/\Below W.heap.size W W':=by
 refine(An mixed (F3 l p hR Fq) (fun g r0 h=>nW h) ?_:Calls _ _ _ _ _).mono ?_
 ·exact lV (vs:= #[.agg #[.int .i64 p.eM,.int .i64 p.ep]]) (.agg _ _ (fun _=>v) rfl (fun a ha=>by simp at ha;rw[ha];rfl) (fun j hj=>by match j,hj with|0,_=>rfl|j+1,hj=>simp at hj) (fun j a ha=>by match j,ha with|0,ha=>simp at ha;subst ha;exact hP.eF|j+1,ha=>simp at ha)) (lV (vs:= #[]) (.agg _ _ (fun j=>if j=0 then .int .i64 p.eM else .int .i64 p.ep) rfl (fun a ha=>by simp[aa]at ha;rcases ha with rfl|rfl<;>rfl) (fun j hj=>by match j,hj with|0,_=>rfl|1,_=>rfl|j+2,hj=>simp[aa]at hj;omega) (fun j a ha=>by match j,ha with|0,ha=>simp[aa]at ha;subst ha;exact .int _ _|1,ha=>simp[aa]at ha;subst ha;exact .int _ _|j+2,ha=>simp[aa]at ha)) vK)
 ·rintro e W' ⟨D,ι,u,rfl,hr,hB⟩
  exact⟨by rw[dp hr],hB⟩
theorem grown_of {W W':World} (h:Below W.heap.size W W'):W.grownBy W' none:=⟨h.os,h.tape,h.output,h.size,fun k hk _=>h.block k hk⟩
def Bl (l:List ae) (i:Nat) (d:Int):List (Nat×Nat×Int):=if 0<=ek l (bJ (aG l i).aF d)then[(i,(ek l (bJ (aG l i).aF d)).toNat,d)]else[]
def kF (l:List ae) (i m:Nat):List (Nat×Nat×Int):=(List.range m).flatMap fun j:Nat=>Bl l i (1-(j:Int))
def k7 (l:List ae) (n:Nat):List (Nat×Nat×Int):=(List.range n).flatMap fun i=>kF l i 2
theorem lU (l:List ae) (n:Nat):k7 l (n+1)=k7 l n++kF l n 2:=by simp[k7,List.range_succ]
theorem mB (l:List ae) (i m:Nat):kF l i (m+1)=kF l i m++Bl l i (1-(m:Int)):=by simp[kF,List.range_succ]
theorem NB (l:List ae) {k m:Nat} (hk:k<l.length) (hm:m<=2):k7 l k++kF l k m <+:k7 l l.length:=by
 have h1:∀d,k7 l k <+:k7 l (k+d):=fun d=>by
  induction d with
  |zero=>exact List.prefix_refl _
  |succ d ih=>rw[<-Nat.add_assoc,lU l (k+d)];exact ih.trans (List.prefix_append _ _)
 have h2:∀d,k7 l (k+1) <+:k7 l (k+1+d):=fun d=>by
  induction d with
  |zero=>exact List.prefix_refl _
  |succ d ih=>rw[<-Nat.add_assoc,lU l (k+1+d)];exact ih.trans (List.prefix_append _ _)
 have h3:=h2 (l.length-(k+1))
 rw[show k+1+(l.length-(k+1))=l.length by omega,lU]at h3
 refine List.IsPrefix.trans ?_ h3
 have h4:kF l k m <+:kF l k 2:=by
  have:m=0∨m=1∨m=2:=by omega
  rcases this with rfl|rfl|rfl
  ·exact List.nil_prefix
  ·rw[mB l k 1];exact List.prefix_append _ _
  ·exact List.prefix_refl _
 exact(List.prefix_append_right_inj _).2 h4
def O0 (l:List ae) (x:Nat×Nat×Int):Prop:=x.1<l.length/\x.2.1<l.length/\(0<=x.2.2/\x.2.2<=1)
def D9 (x:Nat×Nat×Int):Array Value:= #[.agg #[.int .i64 (x.1:Int),.int .i64 (x.2.1:Int)],.int .i64 x.2.2]
theorem Ku (l:List ae) (p:ai) (h:0<l.length:=by omega):ek l p<(l.length:Int):=by
 unfold ek
 split<;>omega
theorem Qk (l:List ae) (hA:gQ l) (q Ba:Nat) (vS:Value) (K:World->World->Prop) (kl:GW K vS l) (J Jx:List (Nat×Nat×Int)->World->Prop) (n:Nat) (hn:1<=n)
  (hY:∀pre x W,J pre W->pre.length<(k7 l l.length).length->O0 l x->YieldAt Fence.wide (n-1) Tryz.prog q (D9 x) W fun e W'=>
   (e=.returned (.bool true)/\J (pre++[x]) W'/\K W W')∨(e=.returned (.bool false)/\Jx (pre++[x]) W'))
  (W:World) (hJ:AbidesFrom W.heap.size J) (MI:W.heap[Ba]? =some (.cells #[vS] 41 (0,0))) (hP:o8 W vS l) (h0:J [] W):
  CallsIn Fence.wide n Tryz.prog 264 #[.func (.yield q) #[] #[],.pointer (some ⟨Ba,0,none⟩)] W fun e W'=>(∃v,e=.returned v)/\
   ((∃ys,ys=k7 l l.length/\J ys W')∨(∃pre,pre <+:k7 l l.length/\Jx pre W')):=by
 obtain⟨A,cp,rfl,_,_⟩:=hP.sl
 refine callsIn_of_wp Tryz.func264 rfl trivial ?_ rfl
 simp only[Tryz.ntmps264,List.size_toArray,List.length_cons,List.length_nil,Nat.reduceAdd,Nat.reduceSub,Array.replicate_succ,Array.replicate_zero,List.push_toArray,List.append_toArray,List.nil_append,List.cons_append]
 have jv:W.cell? ⟨Ba,0,none⟩=some (.slice A l.length cp):=by simp[World.cell?,MI]
 gi_wp2
 gi_loopw [11] (fun i wr=>∃k:Nat,k<=l.length/\i=.int .i64 k/\J (k7 l k) wr/\K W wr)
  (fun i _=>l.length-(intOf i).toNat)
 case atStart=>exact⟨0,Nat.zero_le _,rfl,h0,kl.refl _⟩
 case round=>
  obtain⟨k,hk,rfl,hJs,hKt⟩:=hrel
  by_cases dz:k<l.length
  ·have dn:∃b o,A=some ⟨b,o,none⟩/\wr.cell? ⟨b,o+k*3,none⟩=some (.int .i64 (aG l k).aF.eM)/\wr.cell? ⟨b,o+k*3+1,none⟩=some (.int .i64 (aG l k).aF.ep)/\wr.cell? ⟨b,o+k*3+2,none⟩=some (.int .i64 (aG l k).aQ):=by
    obtain⟨A',c',hv,_,hc⟩:=(kl.pl hKt hP).sl
    cases hv
    rcases hc with rfl|⟨b,o,rfl,j5⟩
    ·simp at dz
    ·obtain⟨h1,h2,h3⟩:=j5 k dz
     exact⟨b,o,rfl,by simpa using h1,by rw[Nat.add_assoc];exact h2,by rw[Nat.add_assoc];exact h3⟩
   obtain⟨b,o,rfl,hx,Rx,ht⟩:=dn
   gi_wp2
   obtain⟨W2,Pp⟩:∃W2,(wr.alloc (.cells #[.int .i64 (aG l k).aF.eM,.int .i64 (aG l k).aF.ep,.int .i64 (aG l k).aQ] 137)).alloc (.cells #[.int .i64 1,.int .i64 0] 2)=W2:=⟨_,rfl⟩
   have pc:Below wr.heap.size wr W2:=by rw[<-Pp];exact((Below.refl _ wr).alloc (Nat.le_refl _) _).alloc (by simp) _
   have Sf:W2.heap[wr.heap.size]? =some (.cells #[.int .i64 (aG l k).aF.eM,.int .i64 (aG l k).aF.ep,.int .i64 (aG l k).aQ] 137 (0,0)):=by
    rw[<-Pp,Below.heap_alloc _ _ _ (by simp)];exact World.alloc_heap_new _ _
   have Se:W2.heap[wr.heap.size+1]? =some (.cells #[.int .i64 1,.int .i64 0] 2 (0,0)):=by
    have:=World.alloc_heap_new (wr.alloc (.cells #[.int .i64 (aG l k).aF.eM,.int .i64 (aG l k).aF.ep,.int .i64 (aG l k).aQ] 137)) (.cells #[.int .i64 1,.int .i64 0] 2)
    rw[World.size_alloc]at this
    rw[<-Pp];exact this
   have MU:K W W2:=kl.trans hKt (kl.of pc)
   have hJ2:J (k7 l k++kF l k 0) W2:=by
    have:=hJ _ _ _ none hJs (grown_of pc) (fun r h=>by cases h)
    simpa[kF]using this
   rw[Pp]
   clear Pp
   generalize wr=w1 at *
   gi_loopw [18] (fun j wr=>∃m:Nat,m<=2/\j=.int .i64 m/\J (k7 l k++kF l k m) wr/\K W2 wr)
    (fun j _=>2-(intOf j).toNat)
   case atStart=>exact⟨0,by omega,rfl,hJ2,kl.refl _⟩
   case round=>
    obtain⟨m,hm,rfl,hJm,Lw⟩:=hrel
    have hm0:m=0∨m=1∨m=2:=by omega
    by_cases OE:m<2
    ·have hkd:=kl.typed Lw _ _ _ _ Se (by decide) (by decide)
     have Ke:=kl.typed Lw _ _ _ _ Sf (by decide) (by decide)
     have hka:=kl.typed (kl.trans MU Lw) _ _ _ _ MI (by decide) (by decide)
     have cd:wr.cell? ⟨w1.heap.size+1,m,none⟩=some (.int .i64 (1-(m:Int))):=by
      rw[World.cell?_of_block hkd]
      rcases hm0 with rfl|rfl|rfl
      ·simp[World.cell?,Se]
      ·simp[World.cell?,Se]
      ·omega
     have ct0:wr.cell? ⟨w1.heap.size,0,none⟩=some (.int .i64 (aG l k).aF.eM):=by rw[World.cell?_of_block Ke];simp[World.cell?,Sf]
     have ct1:wr.cell? ⟨w1.heap.size,1,none⟩=some (.int .i64 (aG l k).aF.ep):=by rw[World.cell?_of_block Ke];simp[World.cell?,Sf]
     have ca:wr.cell? ⟨Ba,0,none⟩=some (.slice (some ⟨b,o,none⟩) l.length cp):=by rw[World.cell?_of_block hka];simp[World.cell?,MI]
     have hPw:o8 wr (.slice (some ⟨b,o,none⟩) l.length cp) l:=kl.pl (kl.trans MU Lw) hP
     have hba:Ba<wr.heap.size:=by
      have h1:=(Array.getElem?_eq_some_iff.1 MI).1
      have h2:=kl.size (kl.trans MU Lw)
      omega
     have J6:iP (1-(m:Int)) 0 3=true:=jg (by omega)
     have HT:=om (hA.pt dz)
     have ON:=fun w0=>Dw w0 (aG l k).aF (1-(m:Int)) J6 HT.1 HT.2
     have hPd:o8 wr.drew (.slice (some ⟨b,o,none⟩) l.length cp) l:=hPw.below ⟨rfl,rfl,rfl,Nat.le_refl _,fun _ _=>rfl⟩
     have cad:wr.drew.cell? ⟨Ba,0,none⟩=some (.slice (some ⟨b,o,none⟩) l.length cp):=ca
     have ctd0:wr.drew.cell? ⟨w1.heap.size,0,none⟩=some (.int .i64 (aG l k).aF.eM):=ct0
     have ctd1:wr.drew.cell? ⟨w1.heap.size,1,none⟩=some (.int .i64 (aG l k).aF.ep):=ct1
     have hfw:=hA.sH
     have Na:=hA.F9
     have SM:=mixed
     gi_wp2
     gi_region_with_o (first|(refine⟨trivial,?_⟩;gi_at_call 149;refine(callsIn_wide.2 (ON _)).mono ?_;rintro e w3 ⟨rfl,AG⟩;have ca3:=(AG.cell (p:=⟨Ba,0,none⟩) hba).trans cad)|(refine⟨trivial,?_⟩;gi_at_call 265;refine(callsIn_wide.2 (wY _ l _ (hPd.below AG) (bJ (aG l k).aF (1-(m:Int))) Na (by omega))).mono ?_;rintro e w4 ⟨rfl,hB4⟩))
     all_goals
      have MH:Below wr.heap.size wr w4:=(show Below wr.heap.size wr wr.drew from⟨rfl,rfl,rfl,Nat.le_refl _,fun _ _=>rfl⟩).trans (AG.trans (hB4.mono AG.size))
      have hJ4:J (k7 l k++kF l k m) w4:=hJ _ _ _ none hJm (grown_of MH) (fun r h=>by cases h)
      have pe:=NB l dz (m:=m+1) (by omega)
      rw[mB,<-List.append_assoc]at pe
      have iU:=mB l k m
      have hw:wrap64 ((m:Int)+1)=((m+1:Nat):Int):=by unfold wrap64;omega
      by_cases yS:0<=ek l (bJ (aG l k).aF (1-(m:Int)))
      ·have fB:((ek l (bJ (aG l k).aF (1-(m:Int)))).toNat:Int)=ek l (bJ (aG l k).aF (1-(m:Int))):=by omega
       rw[Bl,if_pos yS]at pe iU
       obtain⟨fn,tmps,assign,body,hy,hR⟩:=hY _ (k,(ek l (bJ (aG l k).aF (1-(m:Int)))).toNat,1-(m:Int)) w4 hJ4 (by
        have:=pe.length_le
        simp only[List.length_append,List.length_cons,List.length_nil]at this ⊢
        omega) ⟨dz,by
        have:ek l (bJ (aG l k).aF (1-(m:Int)))<(l.length:Int):=Ku _ _
        show(ek l (bJ (aG l k).aF (1-(m:Int)))).toNat<l.length
        omega,by show 0<=1-(m:Int);omega,by show 1-(m:Int)<=1;omega⟩
       simp only[D9,fB]at hy
       gi_wp2
       refine hR.mono ?_
       rintro e W3 (⟨rfl,hJ3,hk3⟩|⟨rfl,hJx3⟩)
       ·gi_wp2
        go_roundw
        case rel=>exact⟨m+1,by omega,by simp,by rw[iU,<-List.append_assoc];exact hJ3,kl.trans (kl.trans Lw (kl.of MH)) hk3⟩
        case measure=>simp[intOf];omega
       ·gi_wp2
        refine bodyPost_ret (results_none rfl _ _ _) rfl ?_
        exact⟨⟨_,rfl⟩,.inr ⟨_,pe,hJx3⟩⟩
      ·rw[Bl,if_neg yS,List.append_nil]at iU
       gi_wp2
       refine⟨fun _ h=>(by cases h),?_⟩
       gi_wp2
       go_roundw
       case rel=>exact⟨m+1,by omega,by simp,by rw[iU];exact hJ4,kl.trans Lw (kl.of MH)⟩
       case measure=>simp[intOf];omega
    ·obtain rfl:m=2:=by omega
     have hfw:=hA.sH
     gi_wp2
     go_roundw
     case rel=>exact⟨k+1,by omega,by simp,by rw[lU];exact hJm,kl.trans MU Lw⟩
     case measure=>simp[intOf];omega
  ·obtain rfl:k=l.length:=by omega
   gi_wp2
   go_end0
   exact⟨⟨_,rfl⟩,.inl ⟨_,rfl,hJs⟩⟩
end Go.Proofs.YtgoelphibofcmaaGreat.V

namespace Go.Proofs.YtgoelphibofcmaaGreat.V
open Go.RowKit Go.Shelf
attribute [local go_sem] Oper.semAt_some
theorem zh (n:Nat) (vS:Value) (w:World):CallsIn Fence.wide n Tryz.prog 244 #[.agg #[vS]] w fun e w'=>e=.returned (.func (.func 264) #[] #[.pointer (some ⟨w.heap.size,0,none⟩)])/\w'=w.alloc (.cells #[vS] 41):=by
 refine callsIn_of_wp Tryz.func244 rfl trivial ?_ rfl
 simp only[Tryz.ntmps244,List.size_toArray,List.length_cons,List.length_nil,Nat.reduceAdd,Nat.reduceSub,Array.replicate_succ,Array.replicate_zero,List.push_toArray,List.append_toArray,List.nil_append,List.cons_append]
 gi_wp2
 go_ret
 exact⟨rfl,rfl⟩
abbrev L9 (l:List ae):Type:={x:Nat×Nat×Int // O0 l x}
theorem Io (l:List ae) (hA:gQ l) (Ba n:Nat) (hn:1<=n) (vS:Value) (K:World->World->Prop) (kl:GW K vS l) (w:World) (MI:w.heap[Ba]? =some (.cells #[vS] 41 (0,0))) (hP:o8 w vS l):
  SeqStopsK Fence.wide n Tryz.prog 264 #[.pointer (some ⟨Ba,0,none⟩)] (fun x:L9 l=>D9 x.1) K (fun ys=>ys.map (·.1)=k7 l l.length) (fun _=>True) (k7 l l.length).length w:=fun q J Jx W hW hJ _ hY h0=>by
 refine(Qk l hA q Ba vS K kl (fun ys W=>∃zs:List (L9 l),zs.map (·.1)=ys/\J zs W) (fun ys W=>∃zs:List (L9 l),zs.map (·.1)=ys/\Jx zs W) n hn (fun pre x W1 hJ1 dz uP=>?_) W (fun s A B row ⟨zs,e,h⟩ hg hr=>⟨zs,e,hJ zs A B row h hg hr⟩) ((hW.block Ba (Array.getElem?_eq_some_iff.1 MI).1).trans MI) (hP.below hW) ⟨[],rfl,h0⟩).mono ?_
 ·obtain⟨zs,rfl,h1⟩:=hJ1
  refine YieldAt.mono (hY zs ⟨x,uP⟩ W1 h1 (by simpa using dz)) ?_
  rintro e W' (⟨h2,h3,h4⟩|⟨h2,h3⟩)
  ·exact .inl ⟨h2,⟨zs++[⟨x,uP⟩],by simp,h3⟩,h4⟩
  ·exact .inr ⟨h2,⟨zs++[⟨x,uP⟩],by simp,h3⟩⟩
 ·rintro e W' ⟨h1,⟨ys,rfl,zs,h2,h3⟩|⟨pre,_,zs,h2,h3⟩⟩
  ·exact⟨h1,.inl ⟨zs,h2,h3⟩⟩
  ·exact⟨h1,.inr ⟨zs,trivial,h3⟩⟩
def yq (s:aw) (l:List ae) (x:Nat×Nat×Int):List PB:=if 0<gJ s (aG l x.1).aQ x.2.2 (aG l x.2.1).aQ then[⟨x.1,x.2.1,gJ s (aG l x.1).aQ x.2.2 (aG l x.2.1).aQ⟩]else[]
theorem Hi (s:aw) (l:List ae):cu s l=(k7 l l.length).flatMap (yq s l):=by
 have h1:∀i d,mh s l i d=(Bl l i d).flatMap (yq s l):=fun i d=>by
  unfold mh Bl
  by_cases h:0<=ek l (bJ (aG l i).aF d)
  ·rw[if_pos h]
   simp only[List.flatMap_cons,List.flatMap_nil,List.append_nil,yq]
   by_cases h2:0<gJ s (aG l i).aQ d (aG l (ek l (bJ (aG l i).aF d)).toNat).aQ
   ·rw[if_pos ⟨h,h2⟩,if_pos h2]
   ·rw[if_neg fun hc=>h2 hc.2,if_neg h2]
  ·rw[if_neg h,if_neg fun hc=>h hc.1];rfl
 unfold cu gD k7
 rw[List.flatMap_assoc]
 congr 1
 funext i
 unfold fK kF
 rw[List.flatMap_assoc]
 congr 1
 funext j
 exact h1 i _
end Go.Proofs.YtgoelphibofcmaaGreat.V

namespace Go.Proofs.YtgoelphibofcmaaGreat.V
open Go.RowKit
attribute [local irreducible] dD wpOps gI Call
attribute [local go_sem] aK fW eU gE gy cE upd ck K.av cN AV.cells AV.cell rowOf rowsOf part ld rowAt bB bY dO ev iI bK db eI gr e8 dx eB cZ cY ea ec bQ aY cQ bP cU cR ez eC eA cP bV da ew bL aL cW cF iH bz cK bR aU dh aT dP AV.undef bF bG eh eu dX dY cI eH eK cD eE eD cV cX List.getD_cons_zero List.getD_cons_succ List.getD_nil List.all_cons List.all_nil Bool.and_true Bool.true_and Bool.and_self Bool.not_true Bool.not_false Option.map_some Option.map_none Option.bind_some Option.bind_none List.length_cons List.length_nil List.take_succ_cons List.take_zero List.take_nil List.drop_succ_cons List.drop_zero List.drop_nil List.head?_cons List.map_cons List.map_nil List.getElem?_cons_zero List.getElem?_cons_succ List.cons_append List.nil_append List.append_nil List.length_map List.set_cons_zero List.set_cons_succ Nat.reduceMul eq_self Int.toNat_natCast Int.natCast_nonneg and_self true_and and_true decide_true decide_false Bool.false_eq_true Nat.zero_add Nat.add_zero List.contains_cons List.contains_nil Bool.or_false Bool.false_or beq_self_eq_true Nat.reduceBEq ne_eq not_true_eq_false not_false_eq_true Id.mk.injEq false_and and_false Nat.reduceLT Int.reduceLE Int.reduceLT Int.reduceToNat Int.reduceNeg Int.reduceAdd Nat.le_refl List.length_append beq_true beq_false Bool.not_eq_eq_eq_not or_false false_or dQ aj aq aH bd bE cm aW bc aN bf cL bU
def zz (bs:List PB):AV:=if bs=[]then .cj else .sl (bs.map ay)
theorem KZ:zz []=.cj:=rfl
theorem zA {bs:List PB} (h:0<bs.length):zz bs=.sl (bs.map ay):=by
 unfold zz
 rw[if_neg (by rintro rfl;simp at h)]
theorem wM (cnt:Nat) (zZ:1<=cnt) (hn:cnt<=1048576) (bs:List PB) (hb:∀b∈bs,b.a<cnt/\b.b<cnt) (hp:0<bs.length) (mo:bs.length<=1048576) (t:Int):ao Tryz.prog 221 [.int .i64 cnt,.sl (bs.map ay),.int .i64 t] (.gx [.int .i64 (leads cnt (dV (aE t bs))).length,zz (de (dV (aE t bs)) bs)]):=by
 refine ao.body eG rfl fun hl n0=>?_
 clear hl
 (try((repeat(revert hN;revert N;apply Pn.out));refine wk @Nat.zero_add ?_;(repeat(refine Pn.mk ?_;intro N hN))))
 refine .inr (aV _ _ _ _ _ (fun r σ1 hq=>?_) (Hl bs hp mo _))
 obtain⟨o,rfl,ho,Kg,Kh,PH⟩:=hq
 (try dsimp only at ho Kg Kh PH)
 refine hN _ _ ?_
 clear hN N
 (try((repeat(revert hN;revert N;apply Pn.out));refine wk @Nat.zero_add ?_;(repeat(refine Pn.mk ?_;intro N hN))))
 refine .inr (aV _ _ _ _ _ (fun r σ2 hq=>?_) (Ff bs t mo o ⟨221000000,n0⟩ _ ho (by rw[PH _ (by(try dsimp only);omega)];simp only[go_sem, ↓reduceIte,Nat.reduceEqDiff,Nat.reduceAdd,Nat.reduceSub,Nat.reduceLeDiff,reduceCtorEq]) (by(try dsimp only);omega) (by(try dsimp only);omega) (by rintro rfl;simp only at Kg;omega)))
 obtain⟨rows,rfl,fA,hrt,tL,lz,uJ⟩:=hq
 (try dsimp only at lz uJ)
 refine hN _ _ ?_
 clear hN N
 have GC:=uH cnt zZ hn (aE t bs) (fun b h=>hb b (v7 h)) (by have:=mJ t bs;omega)
 have hL:=sR (aE t bs)
 have hz:∀x,cG (dQ σ2.get) 6 [.int .i64 x,.own o 0 (aE t bs).length]=some [.int .i64 x,.sl ((aE t bs).map ay)]:=fun x=>by
  have:V.fz (dQ σ2.get) 6 (.own o 0 (aE t bs).length)=some (.sl ((aE t bs).map ay)):=by
   rw[gT];simp only[dQ,fA,Option.map_some,if_true]
   rw[if_pos (by omega),List.drop_zero,hrt,ml fun b=>yH _ 4 b];rfl
  simp only[aj,aq,aH,this,Option.map_some]
 (try((repeat(revert hN;revert N;apply Pn.out));refine wk @Nat.zero_add ?_;(repeat(refine Pn.mk ?_;intro N hN))))
 refine .inl ⟨_,ao.x GC (hz _),?_⟩
 refine hN _ _ ?_
 clear hN N
 generalize dV (aE t bs)=L at *
 have rT:((fj cnt L).map zV).length=(leads cnt L).length:=by simp[fj]
 have Ri:=jB cnt L
 have jv:(0:Int)<=(cnt:Int):=by omega
 have pr:(cnt:Int)<=((16777216:Nat):Int):=by omega
 have gp:List.replicate cnt [AV.int .i64 0]=du (cC cnt L 0 0) cnt:=by rw[we,od]
 (try((repeat(revert hN;revert N;apply Pn.out));refine wk (tw @jv (tw @pr (tw @Int.le_refl (tw @rT @gp)))) ?_;(repeat(refine Pn.mk ?_;intro N hN))))
 refine aJ (fun n env st=>∃i:Nat,n=((leads cnt L).length)-i/\i<=((leads cnt L).length)/\env 27=.int .i64 (i:Int)/\st.get ⟨221002001,σ2.next+1⟩=some ⟨true,1,du (cC cnt L i 0) cnt⟩/\(σ2.next+1<st.next)) ((leads cnt L).length) ⟨0,by omega,by omega,sl (tw @gp @rT),sl (tw @gp @rT),(by(try dsimp only);omega)⟩ ?_
 rintro n_c env_c st_c ⟨i,rfl,cle,c27,cg0,cI0⟩ cfr
 have c1:=cfr 1 (by kernel_rfl);have c8:=cfr 8 (by kernel_rfl);have c9:=cfr 9 (by kernel_rfl);have wI:=cfr 25 (by kernel_rfl);have wJ:=cfr 26 (by kernel_rfl)
 simp only[go_sem, ↓reduceIte,Nat.reduceEqDiff,Nat.reduceAdd,Nat.reduceSub,Nat.reduceLeDiff,reduceCtorEq,gp,rT]at c1 c8 c9 wI wJ
 clear cfr
 by_cases hi:(i:Int)<((leads cnt L).length:Int)
 ·have gU:∀{e:Env} {gg:Rows} {nx:Nat},(e 27=.int .i64 (IntKind.i64.wrap ((i:Int)+1)))->(gg ⟨221002001,σ2.next+1⟩=some ⟨true,1,du (cC cnt L (i+1) 0) cnt⟩)->(σ2.next+1<nx)->∃m0,m0<((leads cnt L).length)-i/\∃i:Nat,m0=((leads cnt L).length)-i/\i<=((leads cnt L).length)/\e 27=.int .i64 (i:Int)/\gg ⟨221002001,σ2.next+1⟩=some ⟨true,1,du (cC cnt L i 0) cnt⟩/\(σ2.next+1<nx):=fun x1 x2 x3=>⟨_,by omega,i+1,rfl,by omega,(by rw[x1,ax (by omega)]),x2,x3⟩
  have fB:i<(leads cnt L).length:=by omega
  have jZ:((fj cnt L).map zV)[i]? =some (zV (members cnt L (leads cnt L)[i])):=by simp[fj,fB]
  have tK:(leads cnt L).getD i 0=(leads cnt L)[i]:=by simp[List.getD_eq_getElem?_getD,fB]
  have AX:∀m,cC cnt L i m=fun x=>if br L x<i then br L x else if x∈(members cnt L (leads cnt L)[i]).take m then i else 0:=fun m=>by unfold cC;rw[tK]
  have qE:=fun x (hx:x<cnt)=>r5 hL (n:=cnt) (k:=x) (i:=i) hx fB
  have oI:(members cnt L (leads cnt L)[i]).Nodup:=List.nodup_range.filter _
  have JC:∀x∈members cnt L (leads cnt L)[i],x<cnt:=fun x hx=>(lq.1 hx).1
  have hMc:(members cnt L (leads cnt L)[i]).length<=cnt:=by
   have:=List.length_filter_le (fun k=>L k==(leads cnt L)[i]) (List.range cnt)
   simpa[members]using this
  generalize members cnt L (leads cnt L)[i]=M at *
  have BT:(M.map eN).length=M.length:=by simp
  (try((repeat(revert hN;revert N;apply Pn.out));refine wk (tw @c27 (tw @cg0 (tw @c1 (tw @c8 (tw @c9 (tw @wI (tw @wJ (tw @hi (tw @rT (tw @jZ (tw @zV.eq_1 @BT))))))))))) ?_;(repeat(refine Pn.mk ?_;intro N hN))))
  refine aJ (fun n env st=>∃m:Nat,n=(M.length)-m/\m<=(M.length)/\env 34=.int .i64 (m:Int)/\st.get ⟨221002001,σ2.next+1⟩=some ⟨true,1,du (cC cnt L i m) cnt⟩/\(σ2.next+1<st.next)) (M.length) ⟨0,by omega,by omega,sl (tw @c27 (tw @cg0 (tw @c1 (tw @c8 (tw @c9 (tw @wI (tw @wJ @BT))))))),sl (tw @c27 (tw @cg0 (tw @c1 (tw @c8 (tw @c9 (tw @wI (tw @wJ @BT))))))),(by(try dsimp only);omega)⟩ ?_
  rintro n_d env_d st_d ⟨m,rfl,dle,d34,dg0,dI0⟩ dfr
  have d1:=dfr 1 (by kernel_rfl);have d8:=dfr 8 (by kernel_rfl);have d9:=dfr 9 (by kernel_rfl);have d10:=dfr 10 (by kernel_rfl);have d25:=dfr 25 (by kernel_rfl);have d26:=dfr 26 (by kernel_rfl);have d27:=dfr 27 (by kernel_rfl);have d32:=dfr 32 (by kernel_rfl);have d33:=dfr 33 (by kernel_rfl)
  simp only[go_sem, ↓reduceIte,Nat.reduceEqDiff,Nat.reduceAdd,Nat.reduceSub,Nat.reduceLeDiff,reduceCtorEq,c27,cg0,c1,c8,c9,wI,wJ,BT]at d1 d8 d9 d10 d25 d26 d27 d32 d33
  clear dfr
  have tl:=fP (cC cnt L i m) cnt
  by_cases hm:(m:Int)<(M.length:Int)
  ·have sW:∀{e:Env} {gg:Rows} {nx:Nat},(e 34=.int .i64 (IntKind.i64.wrap ((m:Int)+1)))->(gg ⟨221002001,σ2.next+1⟩=some ⟨true,1,du (cC cnt L i (m+1)) cnt⟩)->(σ2.next+1<nx)->∃m0,m0<(M.length)-m/\∃m:Nat,m0=(M.length)-m/\m<=(M.length)/\e 34=.int .i64 (m:Int)/\gg ⟨221002001,σ2.next+1⟩=some ⟨true,1,du (cC cnt L i m) cnt⟩/\(σ2.next+1<nx):=fun x1 x2 x3=>⟨_,by omega,m+1,rfl,by omega,(by rw[x1,ax (by omega)]),x2,x3⟩
   have yT:m<M.length:=by omega
   have uK:(M.map eN)[m]? =some (eN M[m]):=by simp[yT]
   have uR:=JC _ (List.getElem_mem yT)
   have BZ:(M[m]:Int)<(cnt:Int):=by omega
   have BY:=fc (f:=cC cnt L i m) uR
   have eO:(du (cC cnt L i m) cnt).set M[m] (eN i)=du (cC cnt L i (m+1)) cnt:=oW uR (by
    have h1:=(qE _ uR).1 (List.getElem_mem yT)
    rw[AX]
    simp only[]
    rw[if_neg (by omega),if_pos (by rw[List.take_succ_eq_append_getElem yT];exact List.mem_append_right _ (List.mem_singleton.2 rfl))]) fun x hx fZ=>by
    rw[AX,AX]
    simp only[]
    rw[List.take_succ_eq_append_getElem yT]
    simp only[List.mem_append,List.mem_singleton,fZ,or_false]
   rw[eN]at eO BY
   generalize M[m]=xm at *
   (try((repeat(revert hN;revert N;apply Pn.out));refine wk (tw @d34 (tw @dg0 (tw @d1 (tw @d8 (tw @d9 (tw @d10 (tw @d25 (tw @d26 (tw @d27 (tw @d32 (tw @d33 (tw @hm (tw @hi (tw @uK (tw @BT (tw @BZ (tw @BY (tw @tl (tw @eO @eN.eq_1))))))))))))))))))) ?_;(repeat(refine Pn.mk ?_;intro N hN))))
   refine sW ?_ ?_ (by(try dsimp only);omega)
   all_goals simp only[go_sem, ↓reduceIte,Nat.reduceEqDiff,Nat.reduceAdd,Nat.reduceSub,Nat.reduceLeDiff,reduceCtorEq,d34,dg0,d1,d8,d9,d10,d25,d26,d27,d32,d33,eO]
  ·have pS:m=M.length:=by omega
   subst pS
   have iU:du (cC cnt L i M.length) cnt=du (cC cnt L (i+1) 0) cnt:=gN fun x hx=>by
    rw[AX,List.take_length]
    simp only[cC,List.take_zero,List.not_mem_nil,if_false]
    have h1:=qE x hx
    by_cases h2:br L x<i
    ·rw[if_pos h2,if_pos (by omega)]
    ·rw[if_neg h2]
     by_cases h3:x∈M
     ·rw[if_pos h3,if_pos (by have:=h1.1 h3;omega),h1.1 h3]
     ·rw[if_neg h3,if_neg fun h4=>h3 (h1.2 (by omega))]
   (try((repeat(revert hN;revert N;apply Pn.out));refine wk (tw @d34 (tw @dg0 (tw @d1 (tw @d8 (tw @d9 (tw @d10 (tw @d25 (tw @d26 (tw @d27 (tw @d32 (tw @d33 (tw @hm (tw @hi (tw @rT @BT)))))))))))))) ?_;(repeat(refine Pn.mk ?_;intro N hN))))
   refine gU ?_ ?_ (by(try dsimp only);omega)
   all_goals simp only[go_sem, ↓reduceIte,Nat.reduceEqDiff,Nat.reduceAdd,Nat.reduceSub,Nat.reduceLeDiff,reduceCtorEq,c27,cg0,c1,c8,c9,wI,wJ,d34,dg0,d1,d8,d9,d10,d25,d26,d27,d32,d33,iU]
 have ly:i=(leads cnt L).length:=by omega
 subst ly
 have z6:du (cC cnt L (leads cnt L).length 0) cnt=du (br L) cnt:=gN fun x hx=>by rw[cC,if_pos (jS hL hx)]
 rw[z6]at cg0
 have tl:=fP (br L) cnt
 have Q3:(bs.map ay).length=bs.length:=by simp
 (try((repeat(revert hN;revert N;apply Pn.out));refine wk (tw @c27 (tw @cg0 (tw @c1 (tw @c8 (tw @c9 (tw @wI (tw @wJ (tw @hi (tw @rT @Q3))))))))) ?_;(repeat(refine Pn.mk ?_;intro N hN))))
 have M3:σ2.next+1<st_c.next:=cI0
 refine aJ (fun n env st=>∃j:Nat,n=(bs.length)-j/\j<=(bs.length)/\env 46=.int .i64 (j:Int)/\st.get ⟨221002001,σ2.next+1⟩=some ⟨true,1,du (br L) cnt⟩/\(st_c.next<=st.next/\((de L (bs.take j)=[]/\env 14=.cj)∨∃p:Id,env 14=.own p 0 (de L (bs.take j)).length/\st.get p=some ⟨true,3,(de L (bs.take j)).map ay⟩/\st_c.next<=p.aZ/\p.aZ<st.next/\0<(de L (bs.take j)).length))) (bs.length) ⟨0,by omega,by omega,sl (tw @c27 (tw @cg0 (tw @c1 (tw @c8 (tw @c9 (tw @wI (tw @wJ @Q3))))))),sl (tw @c27 (tw @cg0 (tw @c1 (tw @c8 (tw @c9 (tw @wI (tw @wJ @Q3))))))),⟨by(try dsimp only);omega,.inl ⟨rfl,by(simp only[go_sem, ↓reduceIte,Nat.reduceEqDiff,Nat.reduceAdd,Nat.reduceSub,Nat.reduceLeDiff,reduceCtorEq])⟩⟩⟩ ?_
 rintro n_f env_f st_f ⟨j,rfl,fle,f46,fg0,fI0⟩ ffr
 have f1:=ffr 1 (by kernel_rfl);have f8:=ffr 8 (by kernel_rfl);have f9:=ffr 9 (by kernel_rfl);have f44:=ffr 44 (by kernel_rfl);have f45:=ffr 45 (by kernel_rfl)
 simp only[go_sem, ↓reduceIte,Nat.reduceEqDiff,Nat.reduceAdd,Nat.reduceSub,Nat.reduceLeDiff,reduceCtorEq,c27,cg0,c1,c8,c9,wI,wJ,Q3]at f1 f8 f9 f44 f45
 clear ffr
 obtain⟨OB,fO⟩:=fI0
 have H5:=dw (i:=⟨221002001,σ2.next+1⟩) (n:=st_f.next) (by(try dsimp only);omega)
 have AW:=(mH L (bs.take j)).1
 rw[List.length_take]at AW
 by_cases hj:(j:Int)<(bs.length:Int)
 ·have qO:∀{e:Env} {gg:Rows} {nx:Nat},(e 46=.int .i64 (IntKind.i64.wrap ((j:Int)+1)))->(gg ⟨221002001,σ2.next+1⟩=some ⟨true,1,du (br L) cnt⟩)->(st_c.next<=nx/\((de L (bs.take (j+1))=[]/\e 14=.cj)∨∃p:Id,e 14=.own p 0 (de L (bs.take (j+1))).length/\gg p=some ⟨true,3,(de L (bs.take (j+1))).map ay⟩/\st_c.next<=p.aZ/\p.aZ<nx/\0<(de L (bs.take (j+1))).length))->∃m0,m0<(bs.length)-j/\∃j:Nat,m0=(bs.length)-j/\j<=(bs.length)/\e 46=.int .i64 (j:Int)/\gg ⟨221002001,σ2.next+1⟩=some ⟨true,1,du (br L) cnt⟩/\(st_c.next<=nx/\((de L (bs.take j)=[]/\e 14=.cj)∨∃p:Id,e 14=.own p 0 (de L (bs.take j)).length/\gg p=some ⟨true,3,(de L (bs.take j)).map ay⟩/\st_c.next<=p.aZ/\p.aZ<nx/\0<(de L (bs.take j)).length)):=fun x1 x2 x3=>⟨_,by omega,j+1,rfl,by omega,(by rw[x1,ax (by omega)]),x2,x3⟩
  have nu:j<bs.length:=by omega
  have Ej:(bs.map ay)[j]? =some (ay bs[j]):=by simp[nu]
  have Lz:=hb _ (List.getElem_mem nu)
  have hs:=zw L (bs.take j) bs[j]
  rw[<-List.take_succ_eq_append_getElem nu]at hs
  generalize bs[j]=b at *
  have hA:=fc (f:=br L) Lz.1
  have hB:=fc (f:=br L) Lz.2
  have gn:(b.a:Int)<(cnt:Int):=by omega
  have fw:(b.b:Int)<(cnt:Int):=by omega
  rw[eN]at hA hB
  have e1:(de L (bs.take j)).length+1<=16777216:=by omega
  have pS:((de L (bs.take j)).map ay).length=(de L (bs.take j)).length:=by simp
  by_cases he:br L b.a=br L b.b
  ·rw[if_pos he,List.append_nil]at hs
   have tJ:decide ((br L b.a:Int)=(br L b.b:Int))=true:=decide_eq_true (by rw[he])
   (try((repeat(revert hN;revert N;apply Pn.out));refine wk (tw @f46 (tw @fg0 (tw @f1 (tw @f8 (tw @f9 (tw @f44 (tw @f45 (tw @hj (tw @Ej (tw @hA (tw @hB (tw @gn (tw @fw (tw @tl (tw @tJ (tw @H5 (tw @ay.eq_1 (tw @Bool.not_true @Bool.not_false)))))))))))))))))) ?_;(repeat(refine Pn.mk ?_;intro N hN))))
   refine qO ?_ ?_ (by(try dsimp only);exact⟨by omega,by
    rw[hs]
    rcases fO with⟨h1,h2⟩|⟨p,h1,h2,h3,h4,h5⟩
    ·exact .inl ⟨h1,sd @h2⟩
    ·have rF:=dw h4
     exact .inr ⟨p,sd @h1,sd (tw @h2 @rF),h3,by omega,h5⟩⟩)
   all_goals simp only[go_sem, ↓reduceIte,Nat.reduceEqDiff,Nat.reduceAdd,Nat.reduceSub,Nat.reduceLeDiff,reduceCtorEq,f46,fg0,f1,f8,f9,f44,f45,H5]
  ·rw[if_neg he]at hs
   have tJ:decide ((br L b.a:Int)=(br L b.b:Int))=false:=decide_eq_false fun h=>he (by omega)
   rcases fO with⟨h1,f14⟩|⟨p,f14,fg,Nh,HS,hp3⟩
   ·rw[h1]at hs
    (try((repeat(revert hN;revert N;apply Pn.out));refine wk (tw @f46 (tw @fg0 (tw @f1 (tw @f8 (tw @f9 (tw @f44 (tw @f45 (tw @f14 (tw @hj (tw @Ej (tw @hA (tw @hB (tw @gn (tw @fw (tw @tl (tw @tJ (tw @H5 (tw @ay.eq_1 (tw @Bool.not_true @Bool.not_false))))))))))))))))))) ?_;(repeat(refine Pn.mk ?_;intro N hN))))
    refine qO ?_ ?_ (by(try dsimp only);exact⟨by omega,.inr ⟨⟨221017015,st_f.next+1+1+1⟩,by rw[hs];simp only[go_sem, ↓reduceIte,Nat.reduceEqDiff,Nat.reduceAdd,Nat.reduceSub,Nat.reduceLeDiff,reduceCtorEq,List.nil_append,List.length_cons,List.length_nil],by rw[hs];simp only[go_sem, ↓reduceIte,Nat.reduceEqDiff,Nat.reduceAdd,Nat.reduceSub,Nat.reduceLeDiff,reduceCtorEq,ay,List.nil_append,List.map_cons,List.map_nil],by(try dsimp only);omega,by(try dsimp only);omega,by rw[hs];simp⟩⟩)
    all_goals simp only[go_sem, ↓reduceIte,Nat.reduceEqDiff,Nat.reduceAdd,Nat.reduceSub,Nat.reduceLeDiff,reduceCtorEq,f46,fg0,f1,f8,f9,f44,f45,H5]
   ·have x1:=dm (a:=⟨221002001,σ2.next+1⟩) (b:=p) (by(try dsimp only);omega)
    have rF:=dw HS
    (try((repeat(revert hN;revert N;apply Pn.out));refine wk (tw @f46 (tw @fg0 (tw @f1 (tw @f8 (tw @f9 (tw @f44 (tw @f45 (tw @f14 (tw @fg (tw @hj (tw @Ej (tw @hA (tw @hB (tw @gn (tw @fw (tw @tl (tw @tJ (tw @x1 (tw @rF (tw @H5 (tw @e1 (tw @pS (tw @ay.eq_1 (tw @Bool.not_true @Bool.not_false)))))))))))))))))))))))) ?_;(repeat(refine Pn.mk ?_;intro N hN))))
    refine qO ?_ ?_ (by(try dsimp only);exact⟨by omega,.inr ⟨⟨221017015,st_f.next+1+1+1⟩,by rw[hs,List.length_append];simp only[go_sem, ↓reduceIte,Nat.reduceEqDiff,Nat.reduceAdd,Nat.reduceSub,Nat.reduceLeDiff,reduceCtorEq,List.length_cons,List.length_nil],by rw[hs,List.map_append,List.map_cons,List.map_nil];simp only[go_sem, ↓reduceIte,Nat.reduceEqDiff,Nat.reduceAdd,Nat.reduceSub,Nat.reduceLeDiff,reduceCtorEq,ay],by(try dsimp only);omega,by(try dsimp only);omega,by rw[hs];simp⟩⟩)
    all_goals simp only[go_sem, ↓reduceIte,Nat.reduceEqDiff,Nat.reduceAdd,Nat.reduceSub,Nat.reduceLeDiff,reduceCtorEq,f46,fg0,f1,f8,f9,f44,f45,x1,H5]
 ·have gw:j=bs.length:=by omega
  subst gw
  rw[List.take_length]at fO
  rcases fO with⟨h1,f14⟩|⟨p,f14,fg,Nh,HS,hp3⟩
  ·(try((repeat(revert hN;revert N;apply Pn.out));refine wk (tw @f46 (tw @fg0 (tw @f1 (tw @f8 (tw @f9 (tw @f44 (tw @f45 (tw @f14 (tw @hj @rT))))))))) ?_;(repeat(refine Pn.mk ?_;intro N hN))))
   refine jk (.inl rfl) (r1:=.int .i64 ((leads cnt L).length:Int)) (sd @Nat.zero_add) (by simp only[go_sem, ↓reduceIte,Nat.reduceEqDiff,Nat.reduceAdd,Nat.reduceSub,Nat.reduceLeDiff,reduceCtorEq];rfl) ?_
   simp only[dM,aP,bt,dC,kr,h1,KZ,Option.map_some]
  ·(try((repeat(revert hN;revert N;apply Pn.out));refine wk (tw @f46 (tw @fg0 (tw @f1 (tw @f8 (tw @f9 (tw @f44 (tw @f45 (tw @f14 (tw @hj @rT))))))))) ?_;(repeat(refine Pn.mk ?_;intro N hN))))
   refine jk (.inl rfl) (r1:=.int .i64 ((leads cnt L).length:Int)) (sd @Nat.zero_add) (by simp only[go_sem, ↓reduceIte,Nat.reduceEqDiff,Nat.reduceAdd,Nat.reduceSub,Nat.reduceLeDiff,reduceCtorEq];rfl) ?_
   have h1:fY st_f.get 5 (.own p 0 (de L bs).length)=some (.sl ((de L bs).map ay)):=gu (sz:=3) fg rfl fun b=>tD _ 3 b
   simp only[dM,aP,bt,dC,h1,zA hp3,Option.map_some]
theorem wL (cnt:Nat) (zZ:1<=cnt) (hn:cnt<=1048576) (t:Int):ao Tryz.prog 221 [.int .i64 cnt,.cj,.int .i64 t] (.gx [.int .i64 cnt,.cj]):=by
 refine ao.body eG rfl fun hl n0=>?_
 clear hl
 have h1:ao Tryz.prog 242 [.cj] .cj:=by
  refine ao.body eG rfl fun hl n0=>?_
  clear hl
  (try((repeat(revert hN;revert N;apply Pn.out));refine wk @Nat.zero_add ?_;(repeat(refine Pn.mk ?_;intro N hN))))
  exact vO (.inl rfl) (r0:=.cj) (sd @Nat.zero_add) (kr _ _)
 have h2:ao Tryz.prog 241 [.cj,.fn 243 [.cr [.int .i64 t]]] .cj:=by
  have zX:=(xJ [] t (by simp)).cut mixed (.cj (.same _ .nil))
  refine ao.body eG rfl fun hl n0=>?_
  clear hl
  (try((repeat(revert hN;revert N;apply Pn.out));refine wk @Nat.zero_add ?_;(repeat(refine Pn.mk ?_;intro N hN))))
  refine .inl ⟨_,ao.x zX (by simp only[aj,aq,aW,cL,aN,List.all_cons,List.all_nil,AV.cell,Bool.and_true,if_true,Option.map_some]),?_⟩
  refine hN _ _ ?_
  clear hN N
  have hd:decide (im (fun b:PB=>decide (b.s<t)) []= -1)=true:=rfl
  (try((repeat(revert hN;revert N;apply Pn.out));refine wk @hd ?_;(repeat(refine Pn.mk ?_;intro N hN))))
  exact vO (.inl rfl) (r0:=.cj) (sd @Nat.zero_add) (kr _ _)
 have GC:=(uH cnt zZ hn [] (fun b h=>by cases h) (by simp)).cut mixed (.same _ (.cj .nil))
 (repeat(first|((repeat(revert hN;revert N;apply Pn.out));refine wk @Nat.zero_add ?_;(repeat(refine Pn.mk ?_;intro N hN)))|((try apply Or.inl);refine⟨_,ao.x (h1) (sd @Nat.zero_add),?_⟩;refine hN _ _ ?_;clear hN N)))
 refine .inl ⟨_,ao.x h2 ?_,?_⟩
 ·have:V.fz (dQ (bB (fun _=>none) ⟨221000000,n0⟩ ⟨true,1,[[.int .i64 t]]⟩)) 5 (.ptr ⟨221000000,n0⟩ 0 0)=some (.cr [.int .i64 t]):=rO (sz:=1) (rows:=[[.int .i64 t]]) (by simp[dQ,bB]) rfl (by simp only[List.drop_zero,aj,aq,aH,Option.map_some])
  simp only[aj,aq,aW,cL,this,List.all_cons,List.all_nil,AV.cell,Bool.and_true,if_true,Option.map_some]
 refine hN _ _ ?_
 clear hN N
 have fw:dV ([]:List PB)=id:=rfl
 rw[fw]at GC
 have hL:jt id:=fw▸sR ([]:List PB)
 have OD:(leads cnt id).length=cnt:=by rw[leads,List.filter_eq_self.2 (fun a _=>by simp)];simp
 generalize (id:Nat->Nat)=L at *
 have rT:((fj cnt L).map zV).length=(leads cnt L).length:=by simp[fj]
 have Ri:=jB cnt L
 have jv:(0:Int)<=(cnt:Int):=by omega
 have pr:(cnt:Int)<=((16777216:Nat):Int):=by omega
 have gp:List.replicate cnt [AV.int .i64 0]=du (cC cnt L 0 0) cnt:=by rw[we,od]
 (repeat(first|((repeat(revert hN;revert N;apply Pn.out));refine wk (tw @jv (tw @pr (tw @Int.le_refl (tw @rT @gp)))) ?_;(repeat(refine Pn.mk ?_;intro N hN)))|((try apply Or.inl);refine⟨_,ao.x (GC) (sd (tw @jv (tw @pr (tw @Int.le_refl (tw @rT @gp))))),?_⟩;refine hN _ _ ?_;clear hN N)))
 refine aJ (fun n env st=>∃i:Nat,n=((leads cnt L).length)-i/\i<=((leads cnt L).length)/\env 27=.int .i64 (i:Int)/\st.get ⟨221002001,n0+1+1⟩=some ⟨true,1,du (cC cnt L i 0) cnt⟩/\(n0+1+1<st.next)) ((leads cnt L).length) ⟨0,by omega,by omega,sl (tw @gp @rT),sl (tw @gp @rT),(by(try dsimp only);omega)⟩ ?_
 rintro n_c env_c st_c ⟨i,rfl,cle,c27,cg0,cI0⟩ cfr
 have c1:=cfr 1 (by kernel_rfl);have c8:=cfr 8 (by kernel_rfl);have c9:=cfr 9 (by kernel_rfl);have wI:=cfr 25 (by kernel_rfl);have wJ:=cfr 26 (by kernel_rfl)
 simp only[go_sem, ↓reduceIte,Nat.reduceEqDiff,Nat.reduceAdd,Nat.reduceSub,Nat.reduceLeDiff,reduceCtorEq,gp,rT]at c1 c8 c9 wI wJ
 clear cfr
 by_cases hi:(i:Int)<((leads cnt L).length:Int)
 ·have gU:∀{e:Env} {gg:Rows} {nx:Nat},(e 27=.int .i64 (IntKind.i64.wrap ((i:Int)+1)))->(gg ⟨221002001,n0+1+1⟩=some ⟨true,1,du (cC cnt L (i+1) 0) cnt⟩)->(n0+1+1<nx)->∃m0,m0<((leads cnt L).length)-i/\∃i:Nat,m0=((leads cnt L).length)-i/\i<=((leads cnt L).length)/\e 27=.int .i64 (i:Int)/\gg ⟨221002001,n0+1+1⟩=some ⟨true,1,du (cC cnt L i 0) cnt⟩/\(n0+1+1<nx):=fun x1 x2 x3=>⟨_,by omega,i+1,rfl,by omega,(by rw[x1,ax (by omega)]),x2,x3⟩
  have fB:i<(leads cnt L).length:=by omega
  have jZ:((fj cnt L).map zV)[i]? =some (zV (members cnt L (leads cnt L)[i])):=by simp[fj,fB]
  have tK:(leads cnt L).getD i 0=(leads cnt L)[i]:=by simp[List.getD_eq_getElem?_getD,fB]
  have AX:∀m,cC cnt L i m=fun x=>if br L x<i then br L x else if x∈(members cnt L (leads cnt L)[i]).take m then i else 0:=fun m=>by unfold cC;rw[tK]
  have qE:=fun x (hx:x<cnt)=>r5 hL (n:=cnt) (k:=x) (i:=i) hx fB
  have oI:(members cnt L (leads cnt L)[i]).Nodup:=List.nodup_range.filter _
  have JC:∀x∈members cnt L (leads cnt L)[i],x<cnt:=fun x hx=>(lq.1 hx).1
  have hMc:(members cnt L (leads cnt L)[i]).length<=cnt:=by
   have:=List.length_filter_le (fun k=>L k==(leads cnt L)[i]) (List.range cnt)
   simpa[members]using this
  generalize members cnt L (leads cnt L)[i]=M at *
  have BT:(M.map eN).length=M.length:=by simp
  (try((repeat(revert hN;revert N;apply Pn.out));refine wk (tw @c27 (tw @cg0 (tw @c1 (tw @c8 (tw @c9 (tw @wI (tw @wJ (tw @hi (tw @rT (tw @jZ (tw @zV.eq_1 @BT))))))))))) ?_;(repeat(refine Pn.mk ?_;intro N hN))))
  refine aJ (fun n env st=>∃m:Nat,n=(M.length)-m/\m<=(M.length)/\env 34=.int .i64 (m:Int)/\st.get ⟨221002001,n0+1+1⟩=some ⟨true,1,du (cC cnt L i m) cnt⟩/\(n0+1+1<st.next)) (M.length) ⟨0,by omega,by omega,sl (tw @c27 (tw @cg0 (tw @c1 (tw @c8 (tw @c9 (tw @wI (tw @wJ @BT))))))),sl (tw @c27 (tw @cg0 (tw @c1 (tw @c8 (tw @c9 (tw @wI (tw @wJ @BT))))))),(by(try dsimp only);omega)⟩ ?_
  rintro n_d env_d st_d ⟨m,rfl,dle,d34,dg0,dI0⟩ dfr
  have d1:=dfr 1 (by kernel_rfl);have d8:=dfr 8 (by kernel_rfl);have d9:=dfr 9 (by kernel_rfl);have d10:=dfr 10 (by kernel_rfl);have d25:=dfr 25 (by kernel_rfl);have d26:=dfr 26 (by kernel_rfl);have d27:=dfr 27 (by kernel_rfl);have d32:=dfr 32 (by kernel_rfl);have d33:=dfr 33 (by kernel_rfl)
  simp only[go_sem, ↓reduceIte,Nat.reduceEqDiff,Nat.reduceAdd,Nat.reduceSub,Nat.reduceLeDiff,reduceCtorEq,c27,cg0,c1,c8,c9,wI,wJ,BT]at d1 d8 d9 d10 d25 d26 d27 d32 d33
  clear dfr
  have tl:=fP (cC cnt L i m) cnt
  by_cases hm:(m:Int)<(M.length:Int)
  ·have sW:∀{e:Env} {gg:Rows} {nx:Nat},(e 34=.int .i64 (IntKind.i64.wrap ((m:Int)+1)))->(gg ⟨221002001,n0+1+1⟩=some ⟨true,1,du (cC cnt L i (m+1)) cnt⟩)->(n0+1+1<nx)->∃m0,m0<(M.length)-m/\∃m:Nat,m0=(M.length)-m/\m<=(M.length)/\e 34=.int .i64 (m:Int)/\gg ⟨221002001,n0+1+1⟩=some ⟨true,1,du (cC cnt L i m) cnt⟩/\(n0+1+1<nx):=fun x1 x2 x3=>⟨_,by omega,m+1,rfl,by omega,(by rw[x1,ax (by omega)]),x2,x3⟩
   have yT:m<M.length:=by omega
   have uK:(M.map eN)[m]? =some (eN M[m]):=by simp[yT]
   have uR:=JC _ (List.getElem_mem yT)
   have BZ:(M[m]:Int)<(cnt:Int):=by omega
   have BY:=fc (f:=cC cnt L i m) uR
   have eO:(du (cC cnt L i m) cnt).set M[m] (eN i)=du (cC cnt L i (m+1)) cnt:=oW uR (by
    have h1:=(qE _ uR).1 (List.getElem_mem yT)
    rw[AX]
    simp only[]
    rw[if_neg (by omega),if_pos (by rw[List.take_succ_eq_append_getElem yT];exact List.mem_append_right _ (List.mem_singleton.2 rfl))]) fun x hx fZ=>by
    rw[AX,AX]
    simp only[]
    rw[List.take_succ_eq_append_getElem yT]
    simp only[List.mem_append,List.mem_singleton,fZ,or_false]
   rw[eN]at eO BY
   generalize M[m]=xm at *
   (try((repeat(revert hN;revert N;apply Pn.out));refine wk (tw @d34 (tw @dg0 (tw @d1 (tw @d8 (tw @d9 (tw @d10 (tw @d25 (tw @d26 (tw @d27 (tw @d32 (tw @d33 (tw @hm (tw @hi (tw @uK (tw @BT (tw @BZ (tw @BY (tw @tl (tw @eO @eN.eq_1))))))))))))))))))) ?_;(repeat(refine Pn.mk ?_;intro N hN))))
   refine sW ?_ ?_ (by(try dsimp only);omega)
   all_goals simp only[go_sem, ↓reduceIte,Nat.reduceEqDiff,Nat.reduceAdd,Nat.reduceSub,Nat.reduceLeDiff,reduceCtorEq,d34,dg0,d1,d8,d9,d10,d25,d26,d27,d32,d33,eO]
  ·have pS:m=M.length:=by omega
   subst pS
   have iU:du (cC cnt L i M.length) cnt=du (cC cnt L (i+1) 0) cnt:=gN fun x hx=>by
    rw[AX,List.take_length]
    simp only[cC,List.take_zero,List.not_mem_nil,if_false]
    have h1:=qE x hx
    by_cases h2:br L x<i
    ·rw[if_pos h2,if_pos (by omega)]
    ·rw[if_neg h2]
     by_cases h3:x∈M
     ·rw[if_pos h3,if_pos (by have:=h1.1 h3;omega),h1.1 h3]
     ·rw[if_neg h3,if_neg fun h4=>h3 (h1.2 (by omega))]
   (try((repeat(revert hN;revert N;apply Pn.out));refine wk (tw @d34 (tw @dg0 (tw @d1 (tw @d8 (tw @d9 (tw @d10 (tw @d25 (tw @d26 (tw @d27 (tw @d32 (tw @d33 (tw @hm (tw @hi (tw @rT @BT)))))))))))))) ?_;(repeat(refine Pn.mk ?_;intro N hN))))
   refine gU ?_ ?_ (by(try dsimp only);omega)
   all_goals simp only[go_sem, ↓reduceIte,Nat.reduceEqDiff,Nat.reduceAdd,Nat.reduceSub,Nat.reduceLeDiff,reduceCtorEq,c27,cg0,c1,c8,c9,wI,wJ,d34,dg0,d1,d8,d9,d10,d25,d26,d27,d32,d33,iU]
 have ly:i=(leads cnt L).length:=by omega
 subst ly
 have z6:du (cC cnt L (leads cnt L).length 0) cnt=du (br L) cnt:=gN fun x hx=>by rw[cC,if_pos (jS hL hx)]
 rw[z6]at cg0
 have tl:=fP (br L) cnt
 (try((repeat(revert hN;revert N;apply Pn.out));refine wk (tw @c27 (tw @cg0 (tw @c1 (tw @c8 (tw @c9 (tw @wI (tw @wJ (tw @hi @rT)))))))) ?_;(repeat(refine Pn.mk ?_;intro N hN))))
 refine aJ (fun n env st=>∃j:Nat,n=(0)-j/\j<=(0)/\env 46=.int .i64 (j:Int)/\env 14=.cj) (0) ⟨0,by omega,by omega,sl (tw @c27 (tw @cg0 (tw @c1 (tw @c8 (tw @c9 (tw @wI @wJ)))))),sl (tw @c27 (tw @cg0 (tw @c1 (tw @c8 (tw @c9 (tw @wI @wJ))))))⟩ ?_
 rintro n_f env_f st_f ⟨j,rfl,fle,f46,f14⟩ ffr
 have f8:=ffr 8 (by kernel_rfl);have f44:=ffr 44 (by kernel_rfl);have f45:=ffr 45 (by kernel_rfl)
 simp only[go_sem, ↓reduceIte,Nat.reduceEqDiff,Nat.reduceAdd,Nat.reduceSub,Nat.reduceLeDiff,reduceCtorEq,c27,cg0,c1,c8,c9,wI,wJ]at f8 f44 f45
 clear ffr
 have hj:¬(j:Int)<((0:Nat):Int):=by omega
 (try((repeat(revert hN;revert N;apply Pn.out));refine wk (tw @f46 (tw @f14 (tw @f8 (tw @f44 (tw @f45 (tw @hj @rT)))))) ?_;(repeat(refine Pn.mk ?_;intro N hN))))
 refine jk (.inl rfl) (r1:=.int .i64 ((leads cnt L).length:Int)) (r2:=.cj) (sd @Nat.zero_add) (sd @Nat.zero_add) ?_
 simp only[dM,aP,bt,dC,kr,OD,Option.map_some]
theorem yC (cnt:Nat) (zZ:1<=cnt) (hn:cnt<=1048576) (bs:List PB) (hb:∀b∈bs,b.a<cnt/\b.b<cnt) (mo:bs.length<=1048576) (t:Int):ao Tryz.prog 221 [.int .i64 cnt,zz bs,.int .i64 t] (.gx [.int .i64 (leads cnt (dV (aE t bs))).length,zz (de (dV (aE t bs)) bs)]):=by
 cases bs with
 |nil=>
  have h:=wL cnt zZ hn t
  have OD:(leads cnt (dV (aE t []))).length=cnt:=by
   show(leads cnt id).length=cnt
   rw[leads,List.filter_eq_self.2 (fun a _=>by simp)];simp
  rw[OD]
  exact h
 |cons b r=>
  rw[zA (by simp)]
  exact wM cnt zZ hn (b::r) hb (by simp) mo t
end Go.Proofs.YtgoelphibofcmaaGreat.V

namespace Go.Proofs.YtgoelphibofcmaaGreat.V
open Go.RowKit
attribute [local irreducible] dD wpOps gI Call
attribute [local go_sem] aK fW eU gE gy cE upd ck K.av cN AV.cells AV.cell rowOf rowsOf part ld rowAt bB bY dO ev iI bK db eI gr e8 dx eB cZ cY ea ec bQ aY cQ bP cU cR ez eC eA cP bV da ew bL aL cW cF iH bz cK bR aU dh aT dP AV.undef bF bG eh eu dX dY cI eH eK cD eE eD cV cX List.getD_cons_zero List.getD_cons_succ List.getD_nil List.all_cons List.all_nil Bool.and_true Bool.true_and Bool.and_self Bool.not_true Bool.not_false Option.map_some Option.map_none Option.bind_some Option.bind_none List.length_cons List.length_nil List.take_succ_cons List.take_zero List.take_nil List.drop_succ_cons List.drop_zero List.drop_nil List.head?_cons List.map_cons List.map_nil List.getElem?_cons_zero List.getElem?_cons_succ List.cons_append List.nil_append List.append_nil List.length_map List.set_cons_zero List.set_cons_succ Nat.reduceMul eq_self Int.toNat_natCast Int.natCast_nonneg and_self true_and and_true decide_true decide_false Bool.false_eq_true Nat.zero_add Nat.add_zero List.contains_cons List.contains_nil Bool.or_false Bool.false_or beq_self_eq_true Nat.reduceBEq ne_eq not_true_eq_false not_false_eq_true Id.mk.injEq false_and and_false Nat.reduceLT Int.reduceLE Int.reduceLT Int.reduceToNat Int.reduceNeg Int.reduceAdd Nat.le_refl List.length_append beq_true beq_false Bool.not_eq_eq_eq_not or_false false_or dQ aj aq aH bd bE cm aW bc aN bf cL bU
attribute [local go_sem] EM
section
attribute [-go_sem] dO
theorem KH (n:Nat) (hn:n<=1048576):ao Tryz.prog 277 [.int .u64 1,.int .u64 n] (.gx [.int .u64 0,.int .u64 n]):=by
 refine ao.body eG rfl fun hl n0=>?_
 clear hl
 have b1:(BitVec.ofInt 64 (n:Int)&&& BitVec.ofInt 64 4294967295).toNat=n:=by
  rw[BitVec.toNat_and]
  have e1:(BitVec.ofInt 64 (n:Int)).toNat=n:=by rw[BitVec.toNat_ofInt];omega
  have e2:(BitVec.ofInt 64 4294967295).toNat=2 ^ 32-1:=by decide
  rw[e1,e2]
  exact Nat.and_two_pow_sub_one_of_lt_two_pow (by omega)
 have zn:IntKind.u64.wrap (n:Int)=n:=by rw[IntKind.wrap_u64];omega
 have i1:dO .and .u64 (n:Int) 4294967295=some (.int .u64 n):=by
  show some (AV.int .u64 (IntKind.u64.wrap (((BitVec.ofInt 64 (n:Int)&&& BitVec.ofInt 64 4294967295).toNat:Nat):Int)))= _
  rw[b1,zn]
 have i2:dO .and .u64 1 4294967295=some (.int .u64 1):=rfl
 have i3:dO .and .u64 0 4294967295=some (.int .u64 0):=rfl
 have i4:dO .mul .u64 1 (n:Int)=some (.int .u64 n):=by simp only[dO,Int.one_mul,zn]
 have i5:dO .mul .u64 0 (n:Int)=some (.int .u64 0):=by simp only[dO,Int.zero_mul];rfl
 have i6:dO .mul .u64 1 0=some (.int .u64 0):=rfl
 have i7:dO .mul .u64 0 0=some (.int .u64 0):=rfl
 have i8:dO .add .u64 0 0=some (.int .u64 0):=rfl
 have a3:Int.fdiv 1 (2 ^ min 32 64)=0:=by decide
 have a4:Int.fdiv (n:Int) (2 ^ min 32 64)=0:=by
  rw[Int.fdiv_eq_ediv_of_nonneg _ (by decide)]
  have h32:(2:Int) ^ min 32 64=4294967296:=by decide
  exact Int.ediv_eq_zero_of_lt (by omega) (by omega)
 have z1:Int.fdiv 0 (2 ^ min 32 64)=0:=by decide
 (try((repeat(revert hN;revert N;apply Pn.out));refine wk (tw @i1 (tw @i2 (tw @i3 (tw @i4 (tw @i5 (tw @i6 (tw @i7 (tw @i8 (tw @a3 (tw @a4 @z1)))))))))) ?_;(repeat(refine Pn.mk ?_;intro N hN))))
 refine jk (.inl rfl) (r1:=.int .u64 0) (r2:=.int .u64 n) (sd @Nat.zero_add) (sd @Nat.zero_add) ?_
 simp only[dM,aP,bt,dC,Option.map_some]
end
theorem Qj (n:Nat) (hn:n<=1048576):ao Tryz.prog 275 [.int .u64 1,.int .u64 n] (.gx [.int .u64 0,.int .u64 n]):=by
 refine ao.body eG rfl fun hl n0=>?_
 clear hl
 have h:=KH n hn
 (repeat(first|((repeat(revert hN;revert N;apply Pn.out));refine wk @Nat.zero_add ?_;(repeat(refine Pn.mk ?_;intro N hN)))|((try apply Or.inl);refine⟨_,ao.x (h) (sd @Nat.zero_add),?_⟩;refine hN _ _ ?_;clear hN N)))
 refine jk (.inl rfl) (r1:=.int .u64 0) (r2:=.int .u64 n) (sd @Nat.zero_add) (sd @Nat.zero_add) ?_
 simp only[dM,aP,bt,dC,Option.map_some]
theorem IF (cnt:Nat) (zZ:1<=cnt) (hn:cnt<=1048576) (v:Int) (x:Id) (σ:ar) (hx:σ.get x=some ⟨true,1,[[.int .i64 v]]⟩) (Ti:x.aZ<σ.next):
  Call Tryz.prog 271 [.own x 0 1,.int .i64 cnt] σ fun r σ'=>∃o:Id,r=.own o 0 cnt/\σ'.get o=some ⟨true,1,List.replicate cnt [.int .i64 v]⟩/\σ.next<=o.aZ/\o.aZ<σ'.next/\∀i:Id,i.aZ<σ.next->σ'.get i=σ.get i:=by
 refine gW eG rfl fun hl=>?_
 clear hl
 have h:=Qj cnt hn
 have w1:IntKind.u64.wrap (cnt:Int)=cnt:=by rw[IntKind.wrap_u64];omega
 have w2:IntKind.i64.wrap (cnt:Int)=cnt:=Jj (by omega)
 have w0:IntKind.u64.wrap ((1:Nat):Int)=1:=by decide
 have g1:¬(cnt:Int)<0:=by omega
 have g2:¬(9223372036854775807:Int)<cnt:=by omega
 have jv:(0:Int)<=(cnt:Int):=by omega
 have pr:(cnt:Int)<=((16777216:Nat):Int):=by omega
 have JH:=dw Ti
 have tL:(List.replicate cnt [AV.int .i64 0]).length=cnt:=List.length_replicate
 have m1:min 1 cnt=1:=by omega
 (repeat(first|((repeat(revert hN;revert N;apply Pn.out));refine wk (tw @w0 (tw @w1 (tw @w2 (tw @g1 (tw @g2 (tw @jv (tw @pr (tw @Int.le_refl (tw @Nat.le_refl (tw @hx (tw @JH (tw @tL @m1)))))))))))) ?_;(repeat(refine Pn.mk ?_;intro N hN)))|((try apply Or.inl);refine⟨_,ao.x (h) (sd (tw @w0 (tw @w1 (tw @w2 (tw @g1 (tw @g2 (tw @jv (tw @pr (tw @Int.le_refl (tw @Nat.le_refl (tw @hx (tw @JH (tw @tL @m1))))))))))))),?_⟩;refine hN _ _ ?_;clear hN N)))
 refine aJ (fun m env st=>∃k:Nat,m=cnt-k/\1<=k/\k<=cnt/\env 8=.int .i64 (k:Int)/\st.get ⟨271006002,σ.next+1+1+1+1⟩=some ⟨true,1,List.replicate k [.int .i64 v]++List.replicate (cnt-k) [.int .i64 0]⟩/\σ.next+4<st.next/\∀i:Id,i.aZ<σ.next->st.get i=σ.get i) (cnt-1) ⟨1,rfl,Nat.le_refl _,zZ,by(simp only[go_sem, ↓reduceIte,Nat.reduceEqDiff,Nat.reduceAdd,Nat.reduceSub,Nat.reduceLeDiff,reduceCtorEq,m1])<;>rfl,?_,by(try dsimp only);omega,fun i hi=>?_⟩ ?_
 ·simp only[go_sem, ↓reduceIte,Nat.reduceEqDiff,Nat.reduceAdd,Nat.reduceSub,Nat.reduceLeDiff,reduceCtorEq]
  rw[List.drop_replicate];rfl
 ·have CV:=dw hi
  simp only[go_sem, ↓reduceIte,Nat.reduceEqDiff,Nat.reduceAdd,Nat.reduceSub,Nat.reduceLeDiff,reduceCtorEq,CV]
 rintro m env_b st_b ⟨k,rfl,wC,uM,b8,bg,bn,ej⟩ bkp
 have b7:=bkp 7 (by kernel_rfl)
 simp only[go_sem, ↓reduceIte,Nat.reduceEqDiff,Nat.reduceAdd,Nat.reduceSub,Nat.reduceLeDiff,reduceCtorEq]at b7
 clear bkp
 have PY:(List.replicate k [AV.int .i64 v]++List.replicate (cnt-k) [AV.int .i64 0]).length=cnt:=by simp;omega
 by_cases hk:(k:Int)<(cnt:Int)
 ·have e7:k<cnt:=by omega
  have wz:(k:Int)<=(cnt:Int):=by omega
  have hw:IntKind.i64.wrap ((k:Int)+((min k (cnt-k):Nat):Int))=((k+min k (cnt-k):Nat):Int):=by rw[bp (by omega)];omega
  have mZ:List.take k (List.replicate k [AV.int .i64 v]++List.replicate (cnt-k) [AV.int .i64 0])=List.replicate k [AV.int .i64 v]:=List.take_left' (by simp)
  have dF:(List.replicate k [AV.int .i64 v]).all (fun c=>c.length==1&&c.all AV.cell)=true:=List.all_eq_true.2 fun c hc=>by rw[List.eq_of_mem_replicate hc];rfl
  have hlr:(List.replicate k [AV.int .i64 v]).length=k:=List.length_replicate
  have Ta:k+(cnt-k)=cnt:=by omega
  have uQ:List.replicate k [AV.int .i64 v]++List.take (min k (cnt-k)) (List.replicate k [AV.int .i64 v])++List.drop (k+min k (cnt-k)) (List.replicate k [AV.int .i64 v]++List.replicate (cnt-k) [AV.int .i64 0])=List.replicate (k+min k (cnt-k)) [AV.int .i64 v]++List.replicate (cnt-(k+min k (cnt-k))) [AV.int .i64 0]:=by
   rw[List.take_replicate,List.drop_append,List.drop_of_length_le (by simp),List.nil_append,hlr,List.drop_replicate,List.replicate_append_replicate]
   congr 2
   ·omega
   ·omega
  (try((repeat(revert hN;revert N;apply Pn.out));refine wk (tw @b7 (tw @b8 (tw @bg (tw @PY (tw @hk (tw @wz (tw @uM (tw @hw (tw @e7 (tw @Nat.sub_zero (tw @mZ (tw @dF (tw @hlr (tw @Ta (tw @Nat.le_refl @uQ))))))))))))))) ?_;(repeat(refine Pn.mk ?_;intro N hN))))
  refine⟨_,?_,k+min k (cnt-k),rfl,by omega,by omega,sd @hw,sd @uQ,by(try dsimp only);omega,fun i hi=>?_⟩
  ·omega
  ·have CV:=dw hi
   have:=ej i hi
   simp only[go_sem, ↓reduceIte,Nat.reduceEqDiff,Nat.reduceAdd,Nat.reduceSub,Nat.reduceLeDiff,reduceCtorEq,CV,this]
 ·have kW:k=cnt:=by omega
  subst kW
  (try((repeat(revert hN;revert N;apply Pn.out));refine wk (tw @b7 (tw @b8 (tw @bg (tw @PY @hk)))) ?_;(repeat(refine Pn.mk ?_;intro N hN))))
  refine gK (.inl rfl) (vs:=[.own ⟨271006002,σ.next+1+1+1+1⟩ 0 k]) (sd @Nat.zero_add) ⟨⟨271006002,σ.next+1+1+1+1⟩,rfl,by simp only[go_sem, ↓reduceIte,Nat.reduceEqDiff,Nat.reduceAdd,Nat.reduceSub,Nat.reduceLeDiff,reduceCtorEq,bg];simp,by(try dsimp only);omega,by(try dsimp only);omega,fun i hi=>ej i hi⟩
end Go.Proofs.YtgoelphibofcmaaGreat.V

namespace Go.Proofs.YtgoelphibofcmaaGreat.V
open Go.RowKit
attribute [local irreducible] dD wpOps gI Call
attribute [local go_sem] aK fW eU gE gy cE upd ck K.av cN AV.cells AV.cell rowOf rowsOf part ld rowAt bB bY dO ev iI bK db eI gr e8 dx eB cZ cY ea ec bQ aY cQ bP cU cR ez eC eA cP bV da ew bL aL cW cF iH bz cK bR aU dh aT dP AV.undef bF bG eh eu dX dY cI eH eK cD eE eD cV cX List.getD_cons_zero List.getD_cons_succ List.getD_nil List.all_cons List.all_nil Bool.and_true Bool.true_and Bool.and_self Bool.not_true Bool.not_false Option.map_some Option.map_none Option.bind_some Option.bind_none List.length_cons List.length_nil List.take_succ_cons List.take_zero List.take_nil List.drop_succ_cons List.drop_zero List.drop_nil List.head?_cons List.map_cons List.map_nil List.getElem?_cons_zero List.getElem?_cons_succ List.cons_append List.nil_append List.append_nil List.length_map List.set_cons_zero List.set_cons_succ Nat.reduceMul eq_self Int.toNat_natCast Int.natCast_nonneg and_self true_and and_true decide_true decide_false Bool.false_eq_true Nat.zero_add Nat.add_zero List.contains_cons List.contains_nil Bool.or_false Bool.false_or beq_self_eq_true Nat.reduceBEq ne_eq not_true_eq_false not_false_eq_true Id.mk.injEq false_and and_false Nat.reduceLT Int.reduceLE Int.reduceLT Int.reduceToNat Int.reduceNeg Int.reduceAdd Nat.le_refl List.length_append beq_true beq_false Bool.not_eq_eq_eq_not or_false false_or dQ aj aq aH bd bE cm aW bc aN bf cL bU
def kN (R:Nat->Id) (n k:Nat):List (List AV):=(List.range k).map fun i=>[.own (R i) 0 n]
theorem jV (R:Nat->Id) (n k:Nat):(kN R n k).length=k:=by simp[kN]
theorem re {R:Nat->Id} {n k i:Nat} (h:i<k):(kN R n k)[i]? =some [.own (R i) 0 n]:=by simp[kN,h]
theorem si (R:Nat->Id) (n k:Nat):kN R n (k+1)=kN R n k++[[.own (R k) 0 n]]:=by simp[kN,List.range_succ]
def w8 (c:Nat->Nat->Int) (n:Nat):List (List AV):=(List.range n).map fun i=>[.sl (dG (c i) n)]
theorem BD {c:Nat->Nat->Int} {n i:Nat} (h:i<n):(w8 c n)[i]? =some [.sl (dG (c i) n)]:=by simp[w8,h]
theorem wc (c:Nat->Nat->Int) (n:Nat):(w8 c n).length=n:=by simp[w8]
structure EV (X o1 o2:Id) (R1 R2:Nat->Id) (n nb:Nat):Prop where
 sx:X.site=245001001
 s1:o1.site=245004008
 s2:o2.site=245005008
 RB:∀i,i<n->(R1 i).site=245004006
 LY:∀i,i<n->(R2 i).site=245005006
 i1:∀i j,i<n->j<n->R1 i=R1 j->i=j
 i2:∀i j,i<n->j<n->R2 i=R2 j->i=j
 vx:X.aZ<nb
 v1:o1.aZ<nb
 v2:o2.aZ<nb
 RE:∀i,i<n->(R1 i).aZ<nb
 OZ:∀i,i<n->(R2 i).aZ<nb
structure nh (g:Rows) (X o1 o2:Id) (R1 R2:Nat->Id) (n:Nat) (c f:Nat->Nat->Int):Prop where
 x:g X=some ⟨true,2,[[.own o1 0 n,.own o2 0 n]]⟩
 t1:g o1=some ⟨true,1,kN R1 n n⟩
 t2:g o2=some ⟨true,1,kN R2 n n⟩
 r1:∀i,i<n->g (R1 i)=some ⟨true,1,dG (c i) n⟩
 r2:∀i,i<n->g (R2 i)=some ⟨true,1,dG (f i) n⟩
theorem nh.frame {g g':Rows} {X o1 o2:Id} {R1 R2:Nat->Id} {n nb:Nat} {c f:Nat->Nat->Int} (I:EV X o1 o2 R1 R2 n nb) (h:nh g X o1 o2 R1 R2 n c f) (hf:∀i:Id,i.aZ<nb->g' i=g i):nh g' X o1 o2 R1 R2 n c f:=
 ⟨(hf _ I.vx).trans h.x,(hf _ I.v1).trans h.t1,(hf _ I.v2).trans h.t2,fun i hi=>(hf _ (I.RE i hi)).trans (h.r1 i hi),fun i hi=>(hf _ (I.OZ i hi)).trans (h.r2 i hi)⟩
theorem nN {f:Nat->Nat->Int} {a b:Nat} {d:Int} {n:Nat} (hb:b<n):(dG (f a) n).set b (bq (f a b+d))=dG (bump f a b d a) n:=kO hb (by simp[bump]) fun i _ hi=>by simp[bump,hi]
theorem jO {f:Nat->Nat->Int} {a b i:Nat} {d:Int} (h:i≠a):bump f a b d i=f i:=by funext v;simp[bump,h]
theorem nh.add {g g':Rows} {X o1 o2:Id} {R1 R2:Nat->Id} {n nb:Nat} {c f:Nat->Nat->Int} (I:EV X o1 o2 R1 R2 n nb) (h:nh g X o1 o2 R1 R2 n c f) (b:PB) (ha:b.a<n) (hb:b.b<n) (hA:b.a≠b.b->g' (R1 b.a)=some ⟨true,1,dG (bump c b.a b.b b.s b.a) n⟩) (hB:g' (R1 b.b)=some ⟨true,1,dG (nk c b b.b) n⟩) (hf:∀i:Id,i.aZ<nb->(i=R1 b.a)=False->(i=R1 b.b)=False->g' i=g i):nh g' X o1 o2 R1 R2 n (nk c b) f:=by
 have ne:∀{i:Id} {s:Nat},i.site=s->(s==245004006)=false->∀a,a<n->(i=R1 a)=False:=fun {i s} hi hs a ha=>by
  simp only[eq_iff_iff,iff_false]
  rintro rfl
  rw[I.RB a ha]at hi
  subst hi
  simp at hs
 refine⟨(hf _ I.vx (ne I.sx (by decide) _ ha) (ne I.sx (by decide) _ hb)).trans h.x,(hf _ I.v1 (ne I.s1 (by decide) _ ha) (ne I.s1 (by decide) _ hb)).trans h.t1,(hf _ I.v2 (ne I.s2 (by decide) _ ha) (ne I.s2 (by decide) _ hb)).trans h.t2,fun i hi=>?_,fun i hi=>(hf _ (I.OZ i hi) (ne (I.LY i hi) (by decide) _ ha) (ne (I.LY i hi) (by decide) _ hb)).trans (h.r2 i hi)⟩
 by_cases Jy:i=b.b
 ·subst Jy;exact hB
 ·by_cases Jw:i=b.a
  ·subst Jw
   rw[hA Jy,nk,jO Jy]
  ·rw[nk,jO Jy,jO Jw,hf _ (I.RE i hi) (by simp only[eq_iff_iff,iff_false];exact fun he=>Jw (I.i1 i _ hi ha he)) (by simp only[eq_iff_iff,iff_false];exact fun he=>Jy (I.i1 i _ hi hb he))]
   exact h.r1 i hi
def lg (n:Nat) (c f:Nat->Nat->Int):List AV:=[.sl (w8 c n),.sl (w8 f n)]
theorem EK {g:Rows} {R:Nat->Id} {n k:Nat} {c:Nat->Nat->Int} (h:∀i,i<k->g (R i)=some ⟨true,1,dG (c i) n⟩) (m:Nat):dK (dQ g) (m+3) (kN R n k)=some ((List.range k).map fun i=>[.sl (dG (c i) n)]):=by
 induction k with
 |zero=>rw[show kN R n 0=[]from rfl,dK];rfl
 |succ k ih=>
  have e1:V.fz (dQ g) (m+3) (.own (R k) 0 n)=some (.sl (dG (c k) n)):=by
   rw[gT];simp only[dQ,h k (by omega),Option.map_some,if_true]
   rw[if_pos (by rw[dt];omega),List.drop_zero,List.take_of_length_le (by rw[dt];omega),zF];rfl
  have app:∀(xs ys:List (List AV)) (RG QK:List (List AV)),dK (dQ g) (m+3) xs=some RG->dK (dQ g) (m+3) ys=some QK->dK (dQ g) (m+3) (xs++ys)=some (RG++QK):=by
   intro xs
   induction xs with
   |nil=>intro ys RG QK h1 h2;rw[dK]at h1;cases h1;exact h2
   |cons a xs ih2=>
    intro ys RG QK h1 h2
    rw[dK]at h1
    rw[List.cons_append,dK]
    cases ha:cG (dQ g) (m+3) a with
    |none=>simp[ha]at h1
    |some a'=>
     cases hb:dK (dQ g) (m+3) xs with
     |none=>simp[ha,hb]at h1
     |some b'=>
      simp[ha,hb]at h1
      subst h1
      rw[ih2 ys b' QK hb h2];rfl
  rw[si,List.range_succ,List.map_append]
  refine app _ _ _ _ (ih fun i hi=>h i (by omega)) ?_
  rw[dK,aj,aq,e1,dK];rfl
theorem nh.fz {g:Rows} {X o1 o2:Id} {R1 R2:Nat->Id} {n:Nat} {c f:Nat->Nat->Int} (h:nh g X o1 o2 R1 R2 n c f):V.fz (dQ g) 6 (.ptr X 0 0)=some (.cr (lg n c f)):=by
 refine rO (sz:=2) (rows:=[[.own o1 0 n,.own o2 0 n]]) (by simp[dQ,h.x]) rfl ?_
 have e1:V.fz (dQ g) 5 (.own o1 0 n)=some (.sl (w8 c n)):=by
  rw[gT];simp only[dQ,h.t1,Option.map_some,if_true]
  rw[if_pos (by rw[jV];omega),List.drop_zero,List.take_of_length_le (by rw[jV];omega)]
  rw[show dK _ 4 _=some (w8 c n)from EK h.r1 1];rfl
 have e2:V.fz (dQ g) 5 (.own o2 0 n)=some (.sl (w8 f n)):=by
  rw[gT];simp only[dQ,h.t2,Option.map_some,if_true]
  rw[if_pos (by rw[jV];omega),List.drop_zero,List.take_of_length_le (by rw[jV];omega)]
  rw[show dK _ 4 _=some (w8 f n)from EK h.r2 1];rfl
 simp only[List.drop_zero,aj,aq,e1,e2,lg,Option.map_some]
theorem MA (n:Nat) (c f:Nat->Nat->Int) (u v:Nat) (hu:u<n) (hv:v<n):ao Tryz.prog 272 [.cr (lg n c f),.int .i64 u,.int .i64 v] (.bool (decide (f u v<c u v))):=by
 refine ao.body eG rfl fun hl n0=>?_
 clear hl
 have h1:=BD (c:=c) hu
 have h2:=BD (c:=f) hu
 have h3:=dB (f:=c u) hv
 have h4:=dB (f:=f u) hv
 have hui:(u:Int)<(n:Int):=by omega
 have CV:(v:Int)<(n:Int):=by omega
 have l1:=wc c n
 have l2:=wc f n
 have l3:=dt (c u) n
 have l4:=dt (f u) n
 rw[bq]at h3 h4
 (try((repeat(revert hN;revert N;apply Pn.out));refine wk (tw @lg.eq_1 (tw @h1 (tw @h2 (tw @h3 (tw @h4 (tw @hui (tw @CV (tw @l1 (tw @l2 (tw @l3 @l4)))))))))) ?_;(repeat(refine Pn.mk ?_;intro N hN))))
 exact aI (b:=decide (f u v<c u v)) (.inl rfl) (sd @Nat.zero_add) rfl
end Go.Proofs.YtgoelphibofcmaaGreat.V

namespace Go.Proofs.YtgoelphibofcmaaGreat.V
open Go.RowKit
attribute [local irreducible] dD wpOps gI Call
attribute [local go_sem] aK fW eU gE gy cE upd ck K.av cN AV.cells AV.cell rowOf rowsOf part ld rowAt bB bY dO ev iI bK db eI gr e8 dx eB cZ cY ea ec bQ aY cQ bP cU cR ez eC eA cP bV da ew bL aL cW cF iH bz cK bR aU dh aT dP AV.undef bF bG eh eu dX dY cI eH eK cD eE eD cV cX List.getD_cons_zero List.getD_cons_succ List.getD_nil List.all_cons List.all_nil Bool.and_true Bool.true_and Bool.and_self Bool.not_true Bool.not_false Option.map_some Option.map_none Option.bind_some Option.bind_none List.length_cons List.length_nil List.take_succ_cons List.take_zero List.take_nil List.drop_succ_cons List.drop_zero List.drop_nil List.head?_cons List.map_cons List.map_nil List.getElem?_cons_zero List.getElem?_cons_succ List.cons_append List.nil_append List.append_nil List.length_map List.set_cons_zero List.set_cons_succ Nat.reduceMul eq_self Int.toNat_natCast Int.natCast_nonneg and_self true_and and_true decide_true decide_false Bool.false_eq_true Nat.zero_add Nat.add_zero List.contains_cons List.contains_nil Bool.or_false Bool.false_or beq_self_eq_true Nat.reduceBEq ne_eq not_true_eq_false not_false_eq_true Id.mk.injEq false_and and_false Nat.reduceLT Int.reduceLE Int.reduceLT Int.reduceToNat Int.reduceNeg Int.reduceAdd Nat.le_refl List.length_append beq_true beq_false Bool.not_eq_eq_eq_not or_false false_or dQ aj aq aH bd bE cm aW bc aN bf cL bU
theorem Gm (n:Nat):List.replicate n [AV.int .i64 0]=dG (fun _=>0) n:=by
 refine List.ext_getElem? fun i=>?_
 by_cases h:i<n
 ·rw[dB h,List.getElem?_replicate,if_pos h];rfl
 ·rw[List.getElem?_eq_none (by simp;omega),List.getElem?_eq_none (by rw[dt];omega)]
theorem zC {i j:Id} {s t:Nat} (hi:i.site=s) (hj:j.site=t) (h:(s==t)=false):(i=j)=False/\(j=i)=False:=by
 constructor<;>(simp only[eq_iff_iff,iff_false];rintro rfl;rw[hi]at hj;subst hj;simp at h)
theorem Bn (cnt:Nat) (zZ:1<=cnt) (hn:cnt<=1048576) (bs:List PB) (hb:∀b∈bs,b.a<cnt/\b.b<cnt) (dc:∀b∈bs,0<=b.s/\b.s<=4) (mo:bs.length<=1048576) (σ:ar):
  Call Tryz.prog 245 [.int .i64 cnt,.sl (bs.map ay)] σ fun r σ'=>∃X o1 o2 R1 R2,r=.ptr X 0 0/\EV X o1 o2 R1 R2 cnt σ'.next/\σ.next<=σ'.next/\nh σ'.get X o1 o2 R1 R2 cnt (kJ bs) (fun _ _=>0)/\∀i:Id,i.aZ<σ.next->σ'.get i=σ.get i:=by
 refine gW eG rfl fun hl=>?_
 clear hl
 (try((repeat(revert hN;revert N;apply Pn.out));refine wk @Nat.zero_add ?_;(repeat(refine Pn.mk ?_;intro N hN))))
 obtain⟨X,hX⟩:∃X:Id,X=⟨245001001,σ.next+1⟩:=⟨_,rfl⟩
 obtain⟨R1,Sk⟩:∃R:Nat->Id,R=fun k=>⟨245004006,σ.next+3+4*k+1⟩:=⟨_,rfl⟩
 obtain⟨R2,Sm⟩:∃R:Nat->Id,R=fun k=>⟨245005006,σ.next+3+4*k+2⟩:=⟨_,rfl⟩
 have sX:X.site=245001001:=by rw[hX]
 have vX:X.aZ=σ.next+1:=by rw[hX]
 have s1:∀k,(R1 k).site=245004006:=fun k=>by rw[Sk]
 have s2:∀k,(R2 k).site=245005006:=fun k=>by rw[Sm]
 have v1:∀k,(R1 k).aZ=σ.next+3+4*k+1:=fun k=>by rw[Sk]
 have v2:∀k,(R2 k).aZ=σ.next+3+4*k+2:=fun k=>by rw[Sm]
 have jv:(0:Int)<=(cnt:Int):=by omega
 have pr:(cnt:Int)<=((16777216:Nat):Int):=by omega
 have hz:=Gm cnt
 have t1:kN R1 cnt 0=[]:=rfl
 have t2:kN R2 cnt 0=[]:=rfl
 refine aJ (fun n env st=>∃k:Nat,n=(cnt)-k/\k<=(cnt)/\env 11=.int .i64 (k:Int)/\env 5=(.ptr X 0 0)/\(st.next=σ.next+3+4*k/\(∀i:Id,i.aZ<σ.next->st.get i=σ.get i)/\∀j,j<k->st.get (R1 j)=some ⟨true,1,dG (fun _=>0) cnt⟩/\st.get (R2 j)=some ⟨true,1,dG (fun _=>0) cnt⟩)/\((k=0/\st.get X=some ⟨true,2,[[.cj,.cj]]⟩)∨∃o1 o2:Id,o1.site=245004008/\o2.site=245005008/\o1.aZ<st.next/\o2.aZ<st.next/\σ.next<=o1.aZ/\σ.next<=o2.aZ/\st.get X=some ⟨true,2,[[.own o1 0 k,.own o2 0 k]]⟩/\st.get o1=some ⟨true,1,kN R1 cnt k⟩/\st.get o2=some ⟨true,1,kN R2 cnt k⟩)) (cnt) ⟨0,by omega,by omega,sl @hX,sl @hX,⟨rfl,fun i hi=>by(have CV:=dw hi);simp only[go_sem, ↓reduceIte,Nat.reduceEqDiff,Nat.reduceAdd,Nat.reduceSub,Nat.reduceLeDiff,reduceCtorEq,CV],fun j hj=>absurd hj (Nat.not_lt_zero j)⟩,.inl ⟨rfl,by rw[hX];simp only[go_sem, ↓reduceIte,Nat.reduceEqDiff,Nat.reduceAdd,Nat.reduceSub,Nat.reduceLeDiff,reduceCtorEq]⟩⟩ ?_
 rintro n_a env_a st_a ⟨k,rfl,ale,Cc,a5,nj,aI1⟩ dv
 have a0:=dv 0 (by kernel_rfl);have a1:=dv 1 (by kernel_rfl);have xd:=dv 10 (by kernel_rfl)
 simp only[go_sem, ↓reduceIte,Nat.reduceEqDiff,Nat.reduceAdd,Nat.reduceSub,Nat.reduceLeDiff,reduceCtorEq,hX]at a0 a1 xd
 clear dv
 obtain⟨anx,dv,aR⟩:=nj
 have wX:=dw (i:=X) (n:=st_a.next) (by omega)
 by_cases hk:(k:Int)<(cnt:Int)
 ·have cw:∀{e:Env} {gg:Rows} {nx:Nat},(e 11=.int .i64 (IntKind.i64.wrap ((k:Int)+1)))->(e 5=(.ptr X 0 0))->(nx=σ.next+3+4*(k+1)/\(∀i:Id,i.aZ<σ.next->gg i=σ.get i)/\∀j,j<(k+1)->gg (R1 j)=some ⟨true,1,dG (fun _=>0) cnt⟩/\gg (R2 j)=some ⟨true,1,dG (fun _=>0) cnt⟩)->(((k+1)=0/\gg X=some ⟨true,2,[[.cj,.cj]]⟩)∨∃o1 o2:Id,o1.site=245004008/\o2.site=245005008/\o1.aZ<nx/\o2.aZ<nx/\σ.next<=o1.aZ/\σ.next<=o2.aZ/\gg X=some ⟨true,2,[[.own o1 0 (k+1),.own o2 0 (k+1)]]⟩/\gg o1=some ⟨true,1,kN R1 cnt (k+1)⟩/\gg o2=some ⟨true,1,kN R2 cnt (k+1)⟩)->∃m0,m0<(cnt)-k/\∃k:Nat,m0=(cnt)-k/\k<=(cnt)/\e 11=.int .i64 (k:Int)/\e 5=(.ptr X 0 0)/\(nx=σ.next+3+4*k/\(∀i:Id,i.aZ<σ.next->gg i=σ.get i)/\∀j,j<k->gg (R1 j)=some ⟨true,1,dG (fun _=>0) cnt⟩/\gg (R2 j)=some ⟨true,1,dG (fun _=>0) cnt⟩)/\((k=0/\gg X=some ⟨true,2,[[.cj,.cj]]⟩)∨∃o1 o2:Id,o1.site=245004008/\o2.site=245005008/\o1.aZ<nx/\o2.aZ<nx/\σ.next<=o1.aZ/\σ.next<=o2.aZ/\gg X=some ⟨true,2,[[.own o1 0 k,.own o2 0 k]]⟩/\gg o1=some ⟨true,1,kN R1 cnt k⟩/\gg o2=some ⟨true,1,kN R2 cnt k⟩):=fun x1 x2 x3 x4=>⟨_,by omega,k+1,rfl,by omega,(by rw[x1,ax (by omega)]),x2,x3,x4⟩
  have e7:k<cnt:=by omega
  have wC:R1 k=⟨245004006,st_a.next+1⟩:=by rw[Sk,anx]
  have uM:R2 k=⟨245005006,st_a.next+1+1⟩:=by rw[Sm,anx]
  have Ep:kN R1 cnt (k+1)=kN R1 cnt k++[[.own ⟨245004006,st_a.next+1⟩ 0 cnt]]:=by rw[si,wC]
  have OM:kN R2 cnt (k+1)=kN R2 cnt k++[[.own ⟨245005006,st_a.next+1+1⟩ 0 cnt]]:=by rw[si,uM]
  rcases aI1 with⟨rfl,O4⟩|⟨o1,o2,so1,so2,vo1,vo2,vn1,vn2,O4,ag1,ag2⟩
  ·(try((repeat(revert hN;revert N;apply Pn.out));refine wk (tw @Cc (tw @a5 (tw @a0 (tw @a1 (tw @xd (tw @hk (tw @wX (tw @O4 (tw @jv (tw @pr (tw @Int.le_refl @hz))))))))))) ?_;(repeat(refine Pn.mk ?_;intro N hN))))
   refine cw ?_ ?_ (by
    (try dsimp only)
    refine⟨by omega,fun i hi=>?_,fun j hj=>?_⟩
    ·have q1:=dw (i:=i) (n:=st_a.next) (by omega)
     have q2:=dm (a:=i) (b:=X) (by omega)
     have:=dv i hi
     simp only[go_sem, ↓reduceIte,Nat.reduceEqDiff,Nat.reduceAdd,Nat.reduceSub,Nat.reduceLeDiff,reduceCtorEq,q1,q2,this]
    ·by_cases xE:j=0
     ·subst xE
      rw[wC,uM]
      have q1:=gL sX (b:=245004006) (v:=st_a.next+1) (by decide)
      have q2:=gL sX (b:=245005006) (v:=st_a.next+1+1) (by decide)
      simp only[go_sem, ↓reduceIte,Nat.reduceEqDiff,Nat.reduceAdd,Nat.reduceSub,Nat.reduceLeDiff,reduceCtorEq,q1,q2]
     ·obtain⟨r1,r2⟩:=aR j (by omega)
      have q1:=dw (i:=R1 j) (n:=st_a.next) (by rw[v1];omega)
      have q2:=dw (i:=R2 j) (n:=st_a.next) (by rw[v2];omega)
      have q3:=zC (s1 j) sX (by decide)
      have q4:=zC (s2 j) sX (by decide)
      constructor
      ·simp only[go_sem, ↓reduceIte,Nat.reduceEqDiff,Nat.reduceAdd,Nat.reduceSub,Nat.reduceLeDiff,reduceCtorEq,q1,q3,r1]
      ·simp only[go_sem, ↓reduceIte,Nat.reduceEqDiff,Nat.reduceAdd,Nat.reduceSub,Nat.reduceLeDiff,reduceCtorEq,q2,q4,r2]) (.inr ⟨⟨245004008,st_a.next+1⟩,⟨245005008,st_a.next+1+1⟩,rfl,rfl,by(try dsimp only);omega,by(try dsimp only);omega,by(try dsimp only);omega,by(try dsimp only);omega,sd @wX,by rw[Ep,t1];simp only[go_sem, ↓reduceIte,Nat.reduceEqDiff,Nat.reduceAdd,Nat.reduceSub,Nat.reduceLeDiff,reduceCtorEq,wX,List.nil_append],by rw[OM,t2];simp only[go_sem, ↓reduceIte,Nat.reduceEqDiff,Nat.reduceAdd,Nat.reduceSub,Nat.reduceLeDiff,reduceCtorEq,wX,List.nil_append]⟩)
   all_goals simp only[go_sem, ↓reduceIte,Nat.reduceEqDiff,Nat.reduceAdd,Nat.reduceSub,Nat.reduceLeDiff,reduceCtorEq,Cc,a5,a0,a1,xd,wX]
  ·have l1:=jV R1 cnt k
   have l2:=jV R2 cnt k
   have e1:k+1<=16777216:=by omega
   have w1:=dw vo1
   have w2:=dw vo2
   have x1:=zC sX so1 (by decide)
   have x2:=zC sX so2 (by decide)
   have x3:=zC so1 so2 (by decide)
   (try((repeat(revert hN;revert N;apply Pn.out));refine wk (tw @Cc (tw @a5 (tw @a0 (tw @a1 (tw @xd (tw @hk (tw @wX (tw @O4 (tw @ag1 (tw @ag2 (tw @l1 (tw @l2 (tw @e1 (tw @w1 (tw @w2 (tw @x1 (tw @x2 (tw @x3 (tw @jv (tw @pr (tw @Int.le_refl @hz))))))))))))))))))))) ?_;(repeat(refine Pn.mk ?_;intro N hN))))
   refine cw ?_ ?_ (by
    (try dsimp only)
    refine⟨by omega,fun i hi=>?_,fun j hj=>?_⟩
    ·have q1:=dw (i:=i) (n:=st_a.next) (by omega)
     have q2:=dm (a:=i) (b:=X) (by omega)
     have q3:=dm (a:=i) (b:=o1) (by omega)
     have q4:=dm (a:=i) (b:=o2) (by omega)
     have:=dv i hi
     simp only[go_sem, ↓reduceIte,Nat.reduceEqDiff,Nat.reduceAdd,Nat.reduceSub,Nat.reduceLeDiff,reduceCtorEq,q1,q2,this,q3,q4]
    ·by_cases xE:j=k
     ·subst xE
      rw[wC,uM]
      have q1:=gL sX (b:=245004006) (v:=st_a.next+1) (by decide)
      have q2:=gL sX (b:=245005006) (v:=st_a.next+1+1) (by decide)
      simp only[go_sem, ↓reduceIte,Nat.reduceEqDiff,Nat.reduceAdd,Nat.reduceSub,Nat.reduceLeDiff,reduceCtorEq,q1,q2,w1,w2]
     ·obtain⟨r1,r2⟩:=aR j (by omega)
      have q1:=dw (i:=R1 j) (n:=st_a.next) (by rw[v1];omega)
      have q2:=dw (i:=R2 j) (n:=st_a.next) (by rw[v2];omega)
      have q3:=zC (s1 j) sX (by decide)
      have q4:=zC (s2 j) sX (by decide)
      have q5:=zC (s1 j) so1 (by decide)
      have q6:=zC (s1 j) so2 (by decide)
      have q7:=zC (s2 j) so1 (by decide)
      have q8:=zC (s2 j) so2 (by decide)
      constructor
      ·simp only[go_sem, ↓reduceIte,Nat.reduceEqDiff,Nat.reduceAdd,Nat.reduceSub,Nat.reduceLeDiff,reduceCtorEq,q1,q3,r1,q5,q6]
      ·simp only[go_sem, ↓reduceIte,Nat.reduceEqDiff,Nat.reduceAdd,Nat.reduceSub,Nat.reduceLeDiff,reduceCtorEq,q2,q4,r2,q7,q8]) (.inr ⟨⟨245004008,st_a.next+1⟩,⟨245005008,st_a.next+1+1⟩,rfl,rfl,by(try dsimp only);omega,by(try dsimp only);omega,by(try dsimp only);omega,by(try dsimp only);omega,sd @wX,by rw[Ep];simp only[go_sem, ↓reduceIte,Nat.reduceEqDiff,Nat.reduceAdd,Nat.reduceSub,Nat.reduceLeDiff,reduceCtorEq,wX,w1,w2],by rw[OM];simp only[go_sem, ↓reduceIte,Nat.reduceEqDiff,Nat.reduceAdd,Nat.reduceSub,Nat.reduceLeDiff,reduceCtorEq,wX,w1,w2]⟩)
   all_goals simp only[go_sem, ↓reduceIte,Nat.reduceEqDiff,Nat.reduceAdd,Nat.reduceSub,Nat.reduceLeDiff,reduceCtorEq,Cc,a5,a0,a1,xd,wX,w1,w2,x1,x2,x3]
 have kW:cnt=k:=by omega
 subst kW
 rcases aI1 with⟨h0,_⟩|⟨o1,o2,so1,so2,vo1,vo2,vn1,vn2,O4,ag1,ag2⟩
 ·omega
 (try((repeat(revert hN;revert N;apply Pn.out));refine wk (tw @Cc (tw @a5 (tw @a0 (tw @a1 (tw @xd @hk))))) ?_;(repeat(refine Pn.mk ?_;intro N hN))))
 have I:EV X o1 o2 R1 R2 cnt st_a.next:=⟨sX,so1,so2,fun i _=>s1 i,fun i _=>s2 i,fun i j _ _ h=>by have:=v1 i;rw[h,v1]at this;omega,fun i j _ _ h=>by have:=v2 i;rw[h,v2]at this;omega,by omega,vo1,vo2,fun i hi=>by rw[v1];omega,fun i hi=>by rw[v2];omega⟩
 refine aJ (fun n env st=>∃i:Nat,n=(bs.length)-i/\i<=(bs.length)/\env 38=.int .i64 (i:Int)/\(st_a.next<=st.next/\(∀x:Id,x.aZ<σ.next->st.get x=σ.get x)/\nh st.get X o1 o2 R1 R2 cnt (kJ (bs.take i)) (fun _ _=>0))) (bs.length) ⟨0,by omega,by omega,sl (tw @Cc (tw @a5 (tw @a0 (tw @a1 @xd)))),⟨by(try dsimp only);omega,dv,O4,ag1,ag2,fun j hj=>(aR j hj).1,fun j hj=>(aR j hj).2⟩⟩ ?_
 rintro n_b env_b st_b ⟨i,rfl,ble,b38,bI0⟩ ej
 have b0:=ej 0 (by kernel_rfl);have b1:=ej 1 (by kernel_rfl);have b5:=ej 5 (by kernel_rfl);have Ov:=ej 36 (by kernel_rfl);have Ow:=ej 37 (by kernel_rfl)
 simp only[go_sem, ↓reduceIte,Nat.reduceEqDiff,Nat.reduceAdd,Nat.reduceSub,Nat.reduceLeDiff,reduceCtorEq,Cc,a5,a0,a1,xd]at b0 b1 b5 Ov Ow
 clear ej
 obtain⟨bn,Ml,bM⟩:=bI0
 by_cases hi:(i:Int)<(bs.length:Int)
 ·have eL:∀{e:Env} {gg:Rows} {nx:Nat},(e 38=.int .i64 (IntKind.i64.wrap ((i:Int)+1)))->(st_a.next<=nx/\(∀x:Id,x.aZ<σ.next->gg x=σ.get x)/\nh gg X o1 o2 R1 R2 cnt (kJ (bs.take (i+1))) (fun _ _=>0))->∃m0,m0<(bs.length)-i/\∃i:Nat,m0=(bs.length)-i/\i<=(bs.length)/\e 38=.int .i64 (i:Int)/\(st_a.next<=nx/\(∀x:Id,x.aZ<σ.next->gg x=σ.get x)/\nh gg X o1 o2 R1 R2 cnt (kJ (bs.take i)) (fun _ _=>0)):=fun x1 x2=>⟨_,by omega,i+1,rfl,by omega,(by rw[x1,ax (by omega)]),x2⟩
  have fB:i<bs.length:=by omega
  have jZ:(bs.map ay)[i]? =some (ay bs[i]):=by simp[fB]
  have fw:=hb _ (List.getElem_mem fB)
  have hsi:=dc _ (List.getElem_mem fB)
  have pf:kJ (bs.take (i+1))=nk (kJ (bs.take i)) bs[i]:=by rw[List.take_succ_eq_append_getElem fB,Dp]
  have oH:=zu (bs.take i) (fun _ _=>0) (fun b hb=>(dc b (List.mem_of_mem_take hb)).1) (fun _ _=>Int.le_refl _)
  have hle:=room_le (bs.take i) (fun _ _=>0) 0 (fun b hb=>(dc b (List.mem_of_mem_take hb)).2) (fun _ _=>Int.le_refl _) (Int.le_refl _)
  rw[List.length_take]at hle
  have fV:(bs.take i).foldl nk (fun _ _=>0)=kJ (bs.take i):=rfl
  rw[fV]at oH hle
  generalize kJ (bs.take i)=c at *
  generalize bs[i]=b at *
  obtain⟨ha,rR⟩:=fw
  have gA:=re (R:=R1) (n:=cnt) ha
  have gB:=re (R:=R1) (n:=cnt) rR
  have rA:=bM.r1 _ ha
  have rB:=bM.r1 _ rR
  have cA:=dB (f:=c b.a) rR
  have cB:=dB (f:=c b.b) ha
  have sA:=nN (f:=c) (a:=b.a) (d:=b.s) rR
  have gX:=bM.x
  have g1:=bM.t1
  have gn:(b.a:Int)<(cnt:Int):=by omega
  have fw:(b.b:Int)<(cnt:Int):=by omega
  have qX:=dw (i:=X) (n:=st_b.next) (by omega)
  have q1:=dw (i:=o1) (n:=st_b.next) (by omega)
  have qA:=dw (i:=R1 b.a) (n:=st_b.next) (by rw[v1];omega)
  have qB:=dw (i:=R1 b.b) (n:=st_b.next) (by rw[v1];omega)
  have xA:=zC sX (s1 b.a) (by decide)
  have xB:=zC sX (s1 b.b) (by decide)
  have yA:=zC so1 (s1 b.a) (by decide)
  have yB:=zC so1 (s1 b.b) (by decide)
  have l1:=jV R1 cnt cnt
  have lA:=dt (c b.a) cnt
  have lB:=dt (c b.b) cnt
  have hAB:=hle b.a b.b
  have hBA:=hle b.b b.a
  have gAB:=oH b.a b.b
  have gBA:=oH b.b b.a
  have wA:IntKind.i64.wrap (c b.a b.b+b.s)=c b.a b.b+b.s:=bp (by omega)
  by_cases sO:b.a=b.b
  ·obtain⟨ba,bb,s⟩:=b
   dsimp only at *
   subst sO
   have Nn:=nN (f:=bump c ba ba s) (a:=ba) (b:=ba) (d:=s) (n:=cnt) ha
   have Sq:=dB (f:=bump c ba ba s ba) ha
   have hv:bump c ba ba s ba ba=c ba ba+s:=by simp[bump]
   have lC:=dt (bump c ba ba s ba) cnt
   have wB:IntKind.i64.wrap (c ba ba+s+s)=c ba ba+s+s:=bp (by omega)
   rw[hv]at Nn Sq
   have rS:nk c ⟨ba,ba,s⟩ ba=bump (bump c ba ba s) ba ba s ba:=rfl
   rw[bq]at cA sA Nn Sq
   (try((repeat(revert hN;revert N;apply Pn.out));refine wk (tw @b38 (tw @b0 (tw @b1 (tw @b5 (tw @Ov (tw @Ow (tw @hi (tw @jZ (tw @ay.eq_1 (tw @gA (tw @rA (tw @cA (tw @sA (tw @gX (tw @g1 (tw @gn (tw @qX (tw @q1 (tw @qA (tw @xA (tw @yA (tw @l1 (tw @lA (tw @wA (tw @Nn (tw @Sq (tw @lC @wB))))))))))))))))))))))))))) ?_;(repeat(refine Pn.mk ?_;intro N hN))))
   exact eL (sd (tw @b38 (tw @b0 (tw @b1 (tw @b5 (tw @Ov @Ow)))))) (by
    (try dsimp only)
    refine⟨by omega,fun x hx=>?_,?_⟩
    ·have p1:=dw (i:=x) (n:=st_b.next) (by omega)
     have p2:=dm (a:=x) (b:=R1 ba) (by rw[v1];omega)
     have:=Ml x hx
     simp only[go_sem, ↓reduceIte,Nat.reduceEqDiff,Nat.reduceAdd,Nat.reduceSub,Nat.reduceLeDiff,reduceCtorEq,p1,p2,this]
    ·rw[pf]
     refine bM.add I ⟨ba,ba,s⟩ ha ha (fun h=>absurd rfl h) ?_ fun x hx h1 h2=>?_
     ·rw[rS]
      simp only[go_sem, ↓reduceIte,Nat.reduceEqDiff,Nat.reduceAdd,Nat.reduceSub,Nat.reduceLeDiff,reduceCtorEq]
     ·have p1:=dw (i:=x) (n:=st_b.next) (by omega)
      (try dsimp only at h2)
      simp only[go_sem, ↓reduceIte,Nat.reduceEqDiff,Nat.reduceAdd,Nat.reduceSub,Nat.reduceLeDiff,reduceCtorEq,p1,h2])
  ·have fZ:(R1 b.a=R1 b.b)=False:=by simp only[eq_iff_iff,iff_false];exact fun h=>sO (I.i1 _ _ ha rR h)
   have HQ:(R1 b.b=R1 b.a)=False:=by simp only[eq_iff_iff,iff_false];exact fun h=>sO (I.i1 _ _ ha rR h.symm)
   have Nf:bump c b.a b.b b.s b.b=c b.b:=jO fun h=>sO h.symm
   have Nn:=nN (f:=bump c b.a b.b b.s) (a:=b.b) (b:=b.a) (d:=b.s) (n:=cnt) ha
   rw[Nf]at Nn
   have wB:IntKind.i64.wrap (c b.b b.a+b.s)=c b.b b.a+b.s:=bp (by omega)
   have rS:nk c b b.b=bump (bump c b.a b.b b.s) b.b b.a b.s b.b:=rfl
   rw[bq]at cA cB sA Nn
   (try((repeat(revert hN;revert N;apply Pn.out));refine wk (tw @b38 (tw @b0 (tw @b1 (tw @b5 (tw @Ov (tw @Ow (tw @hi (tw @jZ (tw @ay.eq_1 (tw @gA (tw @gB (tw @rA (tw @rB (tw @cA (tw @cB (tw @sA (tw @gX (tw @g1 (tw @gn (tw @fw (tw @qX (tw @q1 (tw @qA (tw @qB (tw @xA (tw @xB (tw @yA (tw @yB (tw @l1 (tw @lA (tw @lB (tw @wA (tw @Nn (tw @wB (tw @fZ @HQ))))))))))))))))))))))))))))))))))) ?_;(repeat(refine Pn.mk ?_;intro N hN))))
   exact eL (sd (tw @b38 (tw @b0 (tw @b1 (tw @b5 (tw @Ov @Ow)))))) (by
    (try dsimp only)
    refine⟨by omega,fun x hx=>?_,?_⟩
    ·have p1:=dw (i:=x) (n:=st_b.next) (by omega)
     have p2:=dm (a:=x) (b:=R1 b.b) (by rw[v1];omega)
     have p3:=dm (a:=x) (b:=R1 b.a) (by rw[v1];omega)
     have:=Ml x hx
     simp only[go_sem, ↓reduceIte,Nat.reduceEqDiff,Nat.reduceAdd,Nat.reduceSub,Nat.reduceLeDiff,reduceCtorEq,p1,p2,p3,this]
    ·rw[pf]
     refine bM.add I b ha rR (fun h=>?_) ?_ fun x hx h1 h2=>?_
     ·simp only[go_sem, ↓reduceIte,Nat.reduceEqDiff,Nat.reduceAdd,Nat.reduceSub,Nat.reduceLeDiff,reduceCtorEq,fZ]
     ·rw[rS]
      simp only[go_sem, ↓reduceIte,Nat.reduceEqDiff,Nat.reduceAdd,Nat.reduceSub,Nat.reduceLeDiff,reduceCtorEq,fZ]
     ·have p1:=dw (i:=x) (n:=st_b.next) (by omega)
      simp only[go_sem, ↓reduceIte,Nat.reduceEqDiff,Nat.reduceAdd,Nat.reduceSub,Nat.reduceLeDiff,reduceCtorEq,p1,h1,h2])
 ·have ly:i=bs.length:=by omega
  subst ly
  rw[List.take_length]at bM
  (try((repeat(revert hN;revert N;apply Pn.out));refine wk (tw @b38 (tw @b0 (tw @b1 (tw @b5 (tw @Ov (tw @Ow @hi)))))) ?_;(repeat(refine Pn.mk ?_;intro N hN))))
  exact gK (.inl rfl) (vs:=[.ptr X 0 0]) (sd @Nat.zero_add) ⟨X,o1,o2,R1,R2,rfl,⟨I.sx,I.s1,I.s2,I.RB,I.LY,I.i1,I.i2,by have:=I.vx;(try dsimp only);omega,by have:=I.v1;(try dsimp only);omega,by have:=I.v2;(try dsimp only);omega,fun j hj=>by have:=I.RE j hj;(try dsimp only);omega,fun j hj=>by have:=I.OZ j hj;(try dsimp only);omega⟩,by(try dsimp only);omega,bM,Ml⟩
end Go.Proofs.YtgoelphibofcmaaGreat.V

namespace Go.Proofs.YtgoelphibofcmaaGreat.V
structure Bq (n:Nat) (c f:Nat->Nat->Int) (x:Nat) (par:Nat->Int) (Q:List Nat) (i:Nat):Prop where
 nodup:Q.Nodup
 lt:∀v∈Q,v<n
 root:par x=(x:Int)
 mem:x∈Q
 iff:∀v,v<n->(0<=par v↔v∈Q)
 up:∀v∈Q,v≠x->∃u,u∈Q/\par v=(u:Int)/\Q.idxOf u<Q.idxOf v/\f u v<c u v
 done:∀j (_:j<i) (hl:j<Q.length) (v:Nat),v<n->f Q[j] v<c Q[j] v->v∈Q
 ile:i<=Q.length
section
variable {n:Nat} {c f:Nat->Nat->Int} {x:Nat} {par:Nat->Int} {Q:List Nat} {i:Nat}
theorem Bq.len (h:Bq n c f x par Q i):Q.length<=n:=oe n Q h.nodup h.lt
theorem Bq.start (hx:x<n):Bq n c f x (fun v=>if v=x then(x:Int)else -1) [x] 0:=by
 refine⟨by simp,fun v hv=>by simp at hv;omega,by simp,by simp,fun v hv=>?_,fun v hv fZ=>absurd (by simpa using hv) fZ,fun j hj=>by omega,by simp⟩
 by_cases h:v=x
 ·simp[h]
 ·simp[h]
theorem Bq.visit (h:Bq n c f x par Q i) (hi:i<Q.length) {v:Nat} (hv:v<n) (hp:par v<0) (hr:f Q[i] v<c Q[i] v):Bq n c f x (fun w=>if w=v then(Q[i]:Int)else par w) (Q++[v]) i:=by
 have Td:v∉Q:=fun hm=>by have:=(h.iff v hv).2 hm;omega
 have Ti:x≠v:=fun e=>Td (e▸h.mem)
 have yS:∀u∈Q,(Q++[v]).idxOf u=Q.idxOf u:=fun u hu=>by rw[List.idxOf_append,if_pos hu]
 have uN:(Q++[v]).idxOf v=Q.length:=by rw[List.idxOf_append,if_neg Td];simp
 refine⟨?_,fun w hw=>?_,by simp only[if_neg Ti];exact h.root,by simp[h.mem],fun w hw=>?_,fun w hw fZ=>?_,fun j hj hl w hw GJ=>?_,by simp;omega⟩
 ·refine List.nodup_append.2 ⟨h.nodup,by simp,fun a ha b hb=>?_⟩
  rw[List.mem_singleton.1 hb]
  rintro rfl;exact Td ha
 ·rcases List.mem_append.1 hw with hw|hw
  ·exact h.lt w hw
  ·rw[List.mem_singleton.1 hw];exact hv
 ·by_cases Es:w=v
  ·subst Es;simp
  ·rw[if_neg Es,h.iff w hw];simp[Es]
 ·by_cases Es:w=v
  ·subst Es
   refine⟨Q[i],by simp,by simp,?_,hr⟩
   rw[yS _ (List.getElem_mem hi),uN]
   exact List.idxOf_lt_length_of_mem (List.getElem_mem hi)
  ·have hwQ:w∈Q:=by
    rcases List.mem_append.1 hw with hw|hw
    ·exact hw
    ·exact absurd (List.mem_singleton.1 hw) Es
   obtain⟨u,h1,h2,h3,h4⟩:=h.up w hwQ fZ
   exact⟨u,by simp[h1],by rw[if_neg Es];exact h2,by rw[yS u h1,yS w hwQ];exact h3,h4⟩
 ·have gw:j<Q.length:=by have:=h.ile;omega
  rw[List.getElem_append_left gw]at GJ
  exact List.mem_append_left _ (h.done j hj gw w hw GJ)
theorem Bq.next (h:Bq n c f x par Q i) (hi:i<Q.length) (dF:∀v,v<n->f Q[i] v<c Q[i] v->0<=par v):Bq n c f x par Q (i+1):=by
 refine⟨h.nodup,h.lt,h.root,h.mem,h.iff,h.up,fun j hj hl v hv hr=>?_,by omega⟩
 by_cases l8:j=i
 ·subst l8;exact(h.iff v hv).1 (dF v hv hr)
 ·exact h.done j (by omega) hl v hv hr
theorem Bq.cut (h:Bq n c f x par Q Q.length) {y:Nat} (hy:y<n) (hp:par y<0):∃S:Nat->Bool,S x=true/\S y=false/\∀u v,u<n->v<n->S u=true->S v=false->¬f u v<c u v:=by
 refine⟨fun v=>decide (v∈Q),by simp[h.mem],?_,fun u v hu hv h1 h2 hr=>?_⟩
 ·have:y∉Q:=fun hm=>by have:=(h.iff y hy).2 hm;omega
  simp[this]
 ·simp only[decide_eq_true_eq,decide_eq_false_iff_not]at h1 h2
  obtain⟨j,hj,rfl⟩:=List.getElem_of_mem h1
  exact h2 (h.done j hj hj v hv hr)
def tX (c f:Nat->Nat->Int) (Q:List Nat) (y k:Nat) (out:List Nat):Prop:=∃rest,out.reverse=k::rest/\(k::rest).getLast (by simp)=y/\qk f c (k::rest)/\(k::rest).Pairwise (fun a b=>Q.idxOf a<Q.idxOf b)/\∀v∈k::rest,v∈Q
theorem tX.start {y:Nat} (hy:y∈Q):tX c f Q y y [y]:=⟨[],rfl,rfl,trivial,by simp,by simpa using hy⟩
theorem tX.step {y k u:Nat} {out:List Nat} (h:tX c f Q y k out) (hu:u∈Q) (hi:Q.idxOf u<Q.idxOf k) (hr:f u k<c u k):tX c f Q y u (out++[u]):=by
 obtain⟨rest,h1,h2,h3,h4,h5⟩:=h
 refine⟨k::rest,by rw[List.reverse_append,h1];rfl,by rw[List.getLast_cons (by simp)];exact h2,⟨hr,h3⟩,?_,?_⟩
 ·refine List.pairwise_cons.2 ⟨fun b hb=>?_,h4⟩
  rcases List.mem_cons.1 hb with rfl|hb
  ·exact hi
  ·have:=(List.pairwise_cons.1 h4).1 b hb;omega
 ·intro v hv
  rcases List.mem_cons.1 hv with rfl|hv
  ·exact hu
  ·exact h5 v hv
theorem tX.len {y k:Nat} {out:List Nat} (h:tX c f Q y k out) (hq:∀v∈Q,v<n):out.length<=n:=by
 obtain⟨rest,h1,_,_,h4,h5⟩:=h
 rw[<-List.length_reverse,h1]
 refine oe n _ (h4.imp fun dz he=>?_) fun v hv=>hq v (h5 v hv)
 subst he;omega
structure O3 (n:Nat) (c f:Nat->Nat->Int) (x y:Nat) (p:List Nat):Prop where
 way:∃r,p=x::r/\(x::r).getLast (by simp)=y
 nodup:p.Nodup
 room:qk f c p
 lt:∀v∈p,v<n
theorem tX.way {y:Nat} {out:List Nat} (h:tX c f Q y x out) (hq:∀v∈Q,v<n):O3 n c f x y out.reverse:=by
 obtain⟨rest,h1,h2,h3,h4,h5⟩:=h
 rw[h1]
 exact⟨⟨rest,rfl,h2⟩,h4.imp fun dz he=>by subst he;omega,h3,fun v hv=>hq v (h5 v hv)⟩
end
end Go.Proofs.YtgoelphibofcmaaGreat.V

namespace Go.Proofs.YtgoelphibofcmaaGreat.V
open Go.RowKit
attribute [local irreducible] dD wpOps gI Call
attribute [local go_sem] aK fW eU gE gy cE upd ck K.av cN AV.cells AV.cell rowOf rowsOf part ld rowAt bB bY dO ev iI bK db eI gr e8 dx eB cZ cY ea ec bQ aY cQ bP cU cR ez eC eA cP bV da ew bL aL cW cF iH bz cK bR aU dh aT dP AV.undef bF bG eh eu dX dY cI eH eK cD eE eD cV cX List.getD_cons_zero List.getD_cons_succ List.getD_nil List.all_cons List.all_nil Bool.and_true Bool.true_and Bool.and_self Bool.not_true Bool.not_false Option.map_some Option.map_none Option.bind_some Option.bind_none List.length_cons List.length_nil List.take_succ_cons List.take_zero List.take_nil List.drop_succ_cons List.drop_zero List.drop_nil List.head?_cons List.map_cons List.map_nil List.getElem?_cons_zero List.getElem?_cons_succ List.cons_append List.nil_append List.append_nil List.length_map List.set_cons_zero List.set_cons_succ Nat.reduceMul eq_self Int.toNat_natCast Int.natCast_nonneg and_self true_and and_true decide_true decide_false Bool.false_eq_true Nat.zero_add Nat.add_zero List.contains_cons List.contains_nil Bool.or_false Bool.false_or beq_self_eq_true Nat.reduceBEq ne_eq not_true_eq_false not_false_eq_true Id.mk.injEq false_and and_false Nat.reduceLT Int.reduceLE Int.reduceLT Int.reduceToNat Int.reduceNeg Int.reduceAdd Nat.le_refl List.length_append beq_true beq_false Bool.not_eq_eq_eq_not or_false false_or dQ aj aq aH bd bE cm aW bc aN bf cL bU
def lF (l:List Nat) (i x:Nat):Nat:=if x<i∨l.length-i<=x then l.getD (l.length-1-x) 0 else l.getD x 0
theorem yc (l:List Nat):l.map eN=du (fun x=>l.getD x 0) l.length:=by
 refine List.ext_getElem? fun i=>?_
 by_cases h:i<l.length
 ·rw[fc h,List.getElem?_map,List.getElem?_eq_getElem h];simp[List.getD_eq_getElem?_getD,h]
 ·rw[List.getElem?_eq_none (by simp;omega),List.getElem?_eq_none (by rw[fP];omega)]
theorem F7 (l:List Nat):du (lF l 0) l.length=l.map eN:=by
 rw[yc]
 exact gN fun x hx=>by unfold lF;rw[if_neg (by omega)]
theorem IH (l:List Nat) {i:Nat} (h:l.length<=2*i+1) (hi:i<=l.length):du (lF l i) l.length=l.reverse.map eN:=by
 rw[yc l.reverse,List.length_reverse]
 refine gN fun x hx=>?_
 have hr:l.reverse.getD x 0=l.getD (l.length-1-x) 0:=by
  rw[List.getD_eq_getElem?_getD,List.getElem?_reverse hx,List.getD_eq_getElem?_getD]
 rw[hr]
 unfold lF
 by_cases hc:x<i∨l.length-i<=x
 ·rw[if_pos hc]
 ·rw[if_neg hc]
  have:x=l.length-1-x:=by omega
  rw[<-this]
theorem F8 (l:List Nat) (hp:0<l.length) (hl:l.length<=1048576) (o:Id) (σ:ar) (ho:σ.get o=some ⟨true,1,l.map eN⟩) (lQ:o.aZ<σ.next):
  Call Tryz.prog 273 [.own o 0 l.length] σ fun r σ'=>σ'.get o=some ⟨true,1,l.reverse.map eN⟩/\σ.next<=σ'.next/\∀i:Id,i.aZ<σ.next->(i=o)=False->σ'.get i=σ.get i:=by
 refine gW eG rfl fun mu=>?_
 clear mu
 rw[<-F7]at ho
 have Rw:IntKind.i64.wrap ((l.length:Int)-1)=((l.length-1:Nat):Int):=by rw[bp (by omega)];omega
 (try((repeat(revert hN;revert N;apply Pn.out));refine wk @Rw ?_;(repeat(refine Pn.mk ?_;intro N hN))))
 refine aJ (fun m env st=>∃i:Nat,m=l.length-i/\2*i<=l.length+1/\i<=l.length/\env 2=.int .i64 (i:Int)/\env 3=.int .i64 ((l.length:Int)-1-i)/\st.get o=some ⟨true,1,du (lF l i) l.length⟩/\σ.next<=st.next/\∀x:Id,x.aZ<σ.next->(x=o)=False->st.get x=σ.get x) l.length ⟨0,rfl,by omega,by omega,by(simp only[go_sem, ↓reduceIte,Nat.reduceEqDiff,Nat.reduceAdd,Nat.reduceSub,Nat.reduceLeDiff,reduceCtorEq])<;>rfl,by(simp only[go_sem, ↓reduceIte,Nat.reduceEqDiff,Nat.reduceAdd,Nat.reduceSub,Nat.reduceLeDiff,reduceCtorEq,Rw]);congr 1;omega,ho,by(try dsimp only);omega,fun x _ _=>rfl⟩ ?_
 rintro m env_b st_b ⟨i,rfl,xC,ly,b2,b3,bg,bn,ej⟩ bkp
 have b0:=bkp 0 (by kernel_rfl)
 simp only[go_sem, ↓reduceIte,Nat.reduceEqDiff,Nat.reduceAdd,Nat.reduceSub,Nat.reduceLeDiff,reduceCtorEq]at b0
 clear bkp
 have tl:=fP (lF l i) l.length
 have iY:=dw (i:=o) (n:=st_b.next) (by omega)
 by_cases hi:(i:Int)<(l.length:Int)-1-i
 ·have fB:i<l.length:=by omega
  obtain⟨j,hj⟩:∃j,j=l.length-1-i:=⟨_,rfl⟩
  have nu:j<l.length:=by omega
  have Kd:(l.length:Int)-1-i=(j:Int):=by omega
  rw[Kd]at b3 hi
  have g1:=fc (f:=lF l i) fB
  have g2:=fc (f:=lF l i) nu
  have e1:lF l i i=l.getD i 0:=by unfold lF;rw[if_neg (by omega)]
  have e2:lF l i j=l.getD j 0:=by unfold lF;rw[if_neg (by omega)]
  have LK:(du (lF l i) l.length).set i (eN (l.getD j 0))=du (fun x=>if x=i then l.getD j 0 else lF l i x) l.length:=oW fB (if_pos rfl) fun x _ hx=>if_neg hx
  have H0:(du (fun x=>if x=i then l.getD j 0 else lF l i x) l.length).set j (eN (l.getD i 0))=du (lF l (i+1)) l.length:=oW nu (by unfold lF;rw[if_pos (by omega)];congr 1;omega) fun x hx OR=>by
   by_cases BZ:x=i
   ·rw[if_pos BZ];unfold lF;rw[if_pos (by omega)];congr 1;omega
   ·rw[if_neg BZ];unfold lF
    by_cases hc:x<i∨l.length-i<=x
    ·rw[if_pos hc,if_pos (by omega)]
    ·rw[if_neg hc,if_neg (by omega)]
  have RD:=fP (fun x=>if x=i then l.getD j 0 else lF l i x) l.length
  have g3:=fc (f:=fun x=>if x=i then l.getD j 0 else lF l i x) nu
  rw[e1]at g1
  rw[e2]at g2
  rw[if_neg (by omega),e2]at g3
  rw[eN]at g1 g2 g3 LK H0
  have hii:(i:Int)<(l.length:Int):=by omega
  have l8:(j:Int)<(l.length:Int):=by omega
  have rW:IntKind.i64.wrap ((i:Int)+1)=((i+1:Nat):Int):=ax (by omega)
  have tn:IntKind.i64.wrap ((j:Int)-1)=(l.length:Int)-1-((i+1:Nat):Int):=by rw[bp (by omega)];omega
  (try((repeat(revert hN;revert N;apply Pn.out));refine wk (tw @b0 (tw @b2 (tw @b3 (tw @bg (tw @hi (tw @hii (tw @l8 (tw @g1 (tw @g2 (tw @g3 (tw @LK (tw @H0 (tw @tl (tw @RD (tw @iY (tw @rW @tn)))))))))))))))) ?_;(repeat(refine Pn.mk ?_;intro N hN))))
  refine⟨_,?_,i+1,rfl,by omega,by omega,sd @rW,sd @tn,sd @H0,by(try dsimp only);omega,fun x hx tp=>?_⟩
  ·omega
  ·have:=ej x hx tp
   simp only[go_sem, ↓reduceIte,Nat.reduceEqDiff,Nat.reduceAdd,Nat.reduceSub,Nat.reduceLeDiff,reduceCtorEq,tp,this]
 ·rw[IH l (by omega) ly]at bg
  (try((repeat(revert hN;revert N;apply Pn.out));refine wk (tw @b0 (tw @b2 (tw @b3 (tw @bg @hi)))) ?_;(repeat(refine Pn.mk ?_;intro N hN))))
  exact gK (.inr rfl) (vs:=[]) (by simp only[e5,go_sem, ↓reduceIte,Nat.reduceEqDiff,Nat.reduceAdd,Nat.reduceSub,Nat.reduceLeDiff,reduceCtorEq]) ⟨bg,by(try dsimp only);omega,ej⟩
end Go.Proofs.YtgoelphibofcmaaGreat.V

namespace Go.Proofs.YtgoelphibofcmaaGreat.V
open Go.RowKit
attribute [local irreducible] dD wpOps gI Call
attribute [local go_sem] aK fW eU gE gy cE upd ck K.av cN AV.cells AV.cell rowOf rowsOf part ld rowAt bB bY dO ev iI bK db eI gr e8 dx eB cZ cY ea ec bQ aY cQ bP cU cR ez eC eA cP bV da ew bL aL cW cF iH bz cK bR aU dh aT dP AV.undef bF bG eh eu dX dY cI eH eK cD eE eD cV cX List.getD_cons_zero List.getD_cons_succ List.getD_nil List.all_cons List.all_nil Bool.and_true Bool.true_and Bool.and_self Bool.not_true Bool.not_false Option.map_some Option.map_none Option.bind_some Option.bind_none List.length_cons List.length_nil List.take_succ_cons List.take_zero List.take_nil List.drop_succ_cons List.drop_zero List.drop_nil List.head?_cons List.map_cons List.map_nil List.getElem?_cons_zero List.getElem?_cons_succ List.cons_append List.nil_append List.append_nil List.length_map List.set_cons_zero List.set_cons_succ Nat.reduceMul eq_self Int.toNat_natCast Int.natCast_nonneg and_self true_and and_true decide_true decide_false Bool.false_eq_true Nat.zero_add Nat.add_zero List.contains_cons List.contains_nil Bool.or_false Bool.false_or beq_self_eq_true Nat.reduceBEq ne_eq not_true_eq_false not_false_eq_true Id.mk.injEq false_and and_false Nat.reduceLT Int.reduceLE Int.reduceLT Int.reduceToNat Int.reduceNeg Int.reduceAdd Nat.le_refl List.length_append beq_true beq_false Bool.not_eq_eq_eq_not or_false false_or dQ aj aq aH bd bE cm aW bc aN bf cL bU
theorem Qz (cnt:Nat) (zZ:1<=cnt) (hn:cnt<=1048576) (c f:Nat->Nat->Int) (x y:Nat) (hx:x<cnt) (hy:y<cnt):
  lI Tryz.prog 266 [.cr (lg cnt c f),.int .i64 x,.int .i64 y] fun r=>(r=.cj/\∃S:Nat->Bool,S x=true/\S y=false/\∀u v,u<cnt->v<cnt->S u=true->S v=false->¬f u v<c u v)∨∃p:List Nat,r=.sl (p.map eN)/\O3 cnt c f x y p:=by
 refine lI.body eG rfl fun hl n0=>?_
 clear hl
 have lM:=wc c cnt
 have jv:(0:Int)<=(cnt:Int):=by omega
 have BZ:(x:Int)<(cnt:Int):=by omega
 have Ry:(y:Int)<(cnt:Int):=by omega
 (try((repeat(revert hN;revert N;apply Pn.out));refine wk (tw @lg.eq_1 @lM) ?_;(repeat(refine Pn.mk ?_;intro N hN))))
 refine .inr (aV _ _ _ _ _ (fun r σ1 hq=>?_) (IF cnt zZ hn (-1) ⟨266002000,n0+1+1⟩ _ (sd @Nat.zero_add) (by(try dsimp only);omega)))
 obtain⟨o,rfl,ho,Kg,Kh,jq⟩:=hq
 (try dsimp only at ho Kg Kh jq)
 refine hN _ _ ?_
 clear hN N
 have iY:=dw Kh
 have pr:(cnt:Int)<=1048576:=by omega
 have Pw:pM<pM+cnt:=by omega
 have gp:List.replicate cnt [AV.int .i64 (-1)]=dG (fun _=>-1) cnt:=by
  refine List.ext_getElem? fun i=>?_
  by_cases h:i<cnt
  ·rw[dB h,List.getElem?_replicate,if_pos h];rfl
  ·rw[List.getElem?_eq_none (by simp;omega),List.getElem?_eq_none (by rw[dt];omega)]
 rw[gp]at ho
 have AS:(dG (fun _=>-1) cnt).set x (bq (x:Int))=dG (fun v=>if v=x then(x:Int)else -1) cnt:=kO hx (if_pos rfl) fun v _ hv=>if_neg hv
 have PI:=dB (f:=fun _=>-1) hx
 have tl0:=dt (fun _=>-1) cnt
 rw[bq]at AS PI
 (try((repeat(revert hN;revert N;apply Pn.out));refine wk (tw @lg.eq_1 (tw @lM (tw @jv (tw @pr @iY)))) ?_;(repeat(refine Pn.mk ?_;intro N hN))))
 refine Jg ?_
 simp only[go_sem, ↓reduceIte,Nat.reduceEqDiff,Nat.reduceAdd,Nat.reduceSub,Nat.reduceLeDiff,reduceCtorEq,Pw]
 refine hN _ _ ?_
 clear hN N
 (try((repeat(revert hN;revert N;apply Pn.out));refine wk (tw @ho (tw @iY (tw @AS (tw @PI (tw @tl0 @BZ))))) ?_;(repeat(refine Pn.mk ?_;intro N hN))))
 obtain⟨C,hC⟩:∃C:Id,C=⟨266003001,σ1.next+1⟩:=⟨_,rfl⟩
 have PV:=dm (a:=o) (b:=C) (by rw[hC];(try dsimp only);omega)
 have hCv:C.aZ=σ1.next+1:=by rw[hC]
 refine aJ (fun m env st=>∃(par:Nat->Int) (Q:List Nat) (i:Nat),m=cnt-i/\Bq cnt c f x par Q i/\st.get o=some ⟨true,1,dG par cnt⟩/\st.get C=some ⟨true,pM+cnt,(Q.drop i).map eN⟩/\σ1.next+1<st.next) cnt ⟨_,[x],0,rfl,Bq.start hx,sd @iY,by rw[hC];simp only[go_sem, ↓reduceIte,Nat.reduceEqDiff,Nat.reduceAdd,Nat.reduceSub,Nat.reduceLeDiff,reduceCtorEq,iY];rfl,by(try dsimp only);omega⟩ ?_
 rintro m env_b st_b ⟨par,Q,i,rfl,hB,bgo,bgC,bn⟩ bkp
 have b0:=bkp 0 (by kernel_rfl)
 have b1:=bkp 1 (by kernel_rfl)
 have b2:=bkp 2 (by kernel_rfl)
 have b7:=bkp 7 (by kernel_rfl)
 have b8:=bkp 8 (by kernel_rfl)
 have b9:=bkp 9 (by kernel_rfl)
 rw[<-hC]at b9
 simp only[go_sem, ↓reduceIte,Nat.reduceEqDiff,Nat.reduceAdd,Nat.reduceSub,Nat.reduceLeDiff,reduceCtorEq]at b0 b1 b2 b7 b8 b9
 clear bkp
 have hQn:=hB.len
 have ly:=hB.ile
 have Q7:((Q.drop i).map eN).length=Q.length-i:=by simp
 by_cases hi:i<Q.length
 ·have k5:(0:Int)<((Q.length-i:Nat):Int):=by omega
  have rC:Q.drop i=Q[i]::Q.drop (i+1):=List.drop_eq_getElem_cons hi
  obtain⟨u,hu⟩:∃u,u=Q[i]:=⟨_,rfl⟩
  have hun:u<cnt:=by rw[hu];exact hB.lt _ (List.getElem_mem hi)
  rw[<-hu]at rC
  (try((repeat(revert hN;revert N;apply Pn.out));refine wk (tw @b0 (tw @b1 (tw @b2 (tw @b7 (tw @b8 (tw @b9 (tw @bgC (tw @Q7 @k5)))))))) ?_;(repeat(refine Pn.mk ?_;intro N hN))))
  refine Jg ?_
  rw[rC,List.map_cons,show eN u=[.int .i64 (u:Int)]from rfl]at bgC
  simp only[go_sem, ↓reduceIte,Nat.reduceEqDiff,Nat.reduceAdd,Nat.reduceSub,Nat.reduceLeDiff,reduceCtorEq,b9,bgC]
  refine hN _ _ ?_
  clear hN N
  (try((repeat(revert hN;revert N;apply Pn.out));refine wk @b7 ?_;(repeat(refine Pn.mk ?_;intro N hN))))
  refine aJ (fun m env st=>∃(v:Nat) (par':Nat->Int) (Q':List Nat),m=cnt-v/\v<=cnt/\env 36=.int .i64 (v:Int)/\Bq cnt c f x par' Q' i/\(∃h:i<Q'.length,Q'[i]=u)/\st.get o=some ⟨true,1,dG par' cnt⟩/\st.get C=some ⟨true,pM+cnt,(Q'.drop (i+1)).map eN⟩/\σ1.next+1<st.next/\∀w,w<v->f u w<c u w->0<=par' w) cnt ⟨0,par,Q,rfl,Nat.zero_le _,by(simp only[go_sem, ↓reduceIte,Nat.reduceEqDiff,Nat.reduceAdd,Nat.reduceSub,Nat.reduceLeDiff,reduceCtorEq])<;>rfl,hB,⟨hi,hu.symm⟩,sd (tw @PV @bgo),sd @PV,by(try dsimp only);omega,fun w hw=>absurd hw (Nat.not_lt_zero w)⟩ ?_
  rintro m env_c st_c ⟨v,par',Q',rfl,hvn,c36,dr,⟨qi,Er⟩,xp,cgC,cn,dF⟩ ckp
  have c0:=ckp 0 (by kernel_rfl)
  have c1:=ckp 1 (by kernel_rfl)
  have c2:=ckp 2 (by kernel_rfl)
  have c7:=ckp 7 (by kernel_rfl)
  have c8:=ckp 8 (by kernel_rfl)
  have c9:=ckp 9 (by kernel_rfl)
  have jn:=ckp 10 (by kernel_rfl)
  have Mo:=ckp 35 (by kernel_rfl)
  simp only[go_sem, ↓reduceIte,Nat.reduceEqDiff,Nat.reduceAdd,Nat.reduceSub,Nat.reduceLeDiff,reduceCtorEq,b0,b1,b2,b7,b8,b9]at c0 c1 c2 c7 c8 c9 jn Mo
  clear ckp
  have tl:=dt par' cnt
  by_cases hv:(v:Int)<(cnt:Int)
  ·have CW:v<cnt:=by omega
   have M6:=dB (f:=par') CW
   have jq:=MA cnt c f u v hun CW
   have hw:IntKind.i64.wrap ((v:Int)+1)=((v+1:Nat):Int):=ax (by omega)
   rw[bq]at M6
   rw[lg]at jq
   by_cases jQ:par' v<0
   ·by_cases hr:f u v<c u v
    ·rw[decide_eq_true hr]at jq
     have eO:(dG par' cnt).set v (bq (u:Int))=dG (fun w=>if w=v then(u:Int)else par' w) cnt:=kO CW (if_pos rfl) fun w _ hw=>if_neg hw
     rw[bq]at eO
     have pc:=dr.visit qi CW jQ (by rw[Er];exact hr)
     rw[Er]at pc
     have hQ2:=pc.len
     rw[List.length_append]at hQ2
     simp only[List.length_singleton]at hQ2
     have fV:pM+(Q'.drop (i+1)).length<pM+cnt:=by rw[List.length_drop];omega
     (repeat(first|((repeat(revert hN;revert N;apply Pn.out));refine wk (tw @lg.eq_1 (tw @c0 (tw @c7 (tw @c8 (tw @c9 (tw @jn (tw @c36 (tw @Mo (tw @hv (tw @xp (tw @M6 (tw @tl (tw @jQ @eO))))))))))))) ?_;(repeat(refine Pn.mk ?_;intro N hN)))|((try apply Or.inl);refine⟨_,ao.x (jq) (sd (tw @lg.eq_1 (tw @c0 (tw @c7 (tw @c8 (tw @c9 (tw @jn (tw @c36 (tw @Mo (tw @hv (tw @xp (tw @M6 (tw @tl (tw @jQ @eO)))))))))))))),?_⟩;refine hN _ _ ?_;clear hN N)))
     refine Jg ?_
     have hq:(Q'.drop (i+1)).map eN++[[.int .i64 (v:Int)]]=((Q'++[v]).drop (i+1)).map eN:=by rw[List.drop_append_of_le_length (by omega),List.map_append];rfl
     simp only[go_sem, ↓reduceIte,Nat.reduceEqDiff,Nat.reduceAdd,Nat.reduceSub,Nat.reduceLeDiff,reduceCtorEq,c9,cgC,fV,PV,hq]
     refine hN _ _ ?_
     clear hN N
     (try((repeat(revert hN;revert N;apply Pn.out));refine wk (tw @c36 @hw) ?_;(repeat(refine Pn.mk ?_;intro N hN))))
     refine⟨_,?_,v+1,_,_,rfl,CW,sd @hw,pc,⟨by rw[List.length_append];omega,by rw[List.getElem_append_left qi];exact Er⟩,sd @PV,sd @PV,by(try dsimp only);omega,fun w hw GJ=>?_⟩
     ·omega
     ·by_cases Es:w=v
      ·rw[if_pos Es];omega
      ·rw[if_neg Es];exact dF w (by omega) GJ
    ·rw[decide_eq_false hr]at jq
     (repeat(first|((repeat(revert hN;revert N;apply Pn.out));refine wk (tw @lg.eq_1 (tw @c0 (tw @c7 (tw @c8 (tw @c9 (tw @jn (tw @c36 (tw @Mo (tw @hv (tw @xp (tw @M6 (tw @tl (tw @jQ @hw))))))))))))) ?_;(repeat(refine Pn.mk ?_;intro N hN)))|((try apply Or.inl);refine⟨_,ao.x (jq) (sd (tw @lg.eq_1 (tw @c0 (tw @c7 (tw @c8 (tw @c9 (tw @jn (tw @c36 (tw @Mo (tw @hv (tw @xp (tw @M6 (tw @tl (tw @jQ @hw)))))))))))))),?_⟩;refine hN _ _ ?_;clear hN N)))
     refine⟨_,?_,v+1,par',Q',rfl,CW,sd @hw,dr,⟨qi,Er⟩,sd @xp,sd @cgC,by(try dsimp only);omega,fun w hw GJ=>?_⟩
     ·omega
     ·by_cases Es:w=v
      ·subst Es;exact absurd GJ hr
      ·exact dF w (by omega) GJ
   ·(try((repeat(revert hN;revert N;apply Pn.out));refine wk (tw @lg.eq_1 (tw @c0 (tw @c7 (tw @c8 (tw @c9 (tw @jn (tw @c36 (tw @Mo (tw @hv (tw @xp (tw @M6 (tw @tl (tw @jQ @hw))))))))))))) ?_;(repeat(refine Pn.mk ?_;intro N hN))))
    refine⟨_,?_,v+1,par',Q',rfl,CW,sd @hw,dr,⟨qi,Er⟩,sd @xp,sd @cgC,by(try dsimp only);omega,fun w hw GJ=>?_⟩
    ·omega
    ·by_cases Es:w=v
     ·subst Es;omega
     ·exact dF w (by omega) GJ
  ·have hvc:v=cnt:=by omega
   subst hvc
   (try((repeat(revert hN;revert N;apply Pn.out));refine wk (tw @c36 (tw @Mo @hv)) ?_;(repeat(refine Pn.mk ?_;intro N hN))))
   refine⟨_,?_,par',Q',i+1,rfl,dr.next qi fun w hw hr=>dF w hw (by rw[<-Er];exact hr),sd @xp,sd @cgC,by(try dsimp only);omega⟩
   omega
 ·have hiQ:i=Q.length:=by omega
  subst hiQ
  have k5:¬(0:Int)<((Q.length-Q.length:Nat):Int):=by omega
  have SG:=dB (f:=par) hy
  have tl:=dt par cnt
  rw[bq]at SG
  by_cases jQ:par y<0
  ·(try((repeat(revert hN;revert N;apply Pn.out));refine wk (tw @b0 (tw @b1 (tw @b2 (tw @b7 (tw @b8 (tw @b9 (tw @bgC (tw @Q7 (tw @k5 (tw @bgo (tw @SG (tw @tl (tw @Ry @jQ))))))))))))) ?_;(repeat(refine Pn.mk ?_;intro N hN))))
   exact⟨[.cj],sd @Nat.zero_add,.cj,kr _ _,.inl ⟨rfl,hB.cut hy jQ⟩⟩
  ·(try((repeat(revert hN;revert N;apply Pn.out));refine wk (tw @b0 (tw @b1 (tw @b2 (tw @b7 (tw @b8 (tw @b9 (tw @bgC (tw @Q7 (tw @k5 (tw @bgo (tw @SG (tw @tl (tw @Ry @jQ))))))))))))) ?_;(repeat(refine Pn.mk ?_;intro N hN))))
   refine aJ (fun m env st=>∃(k:Nat) (out:List Nat) (p:Id),m=Q.idxOf k/\env 13=.int .i64 (k:Int)/\env 12=.own p 0 out.length/\st.get p=some ⟨true,1,out.map eN⟩/\p.aZ<st.next/\st_b.next<=p.aZ/\k∈Q/\tX c f Q y k out/\st.get o=some ⟨true,1,dG par cnt⟩) (Q.idxOf y) ⟨y,[y],⟨266017001,st_b.next+1+1⟩,rfl,by(simp only[go_sem, ↓reduceIte,Nat.reduceEqDiff,Nat.reduceAdd,Nat.reduceSub,Nat.reduceLeDiff,reduceCtorEq]),by(simp only[go_sem, ↓reduceIte,Nat.reduceEqDiff,Nat.reduceAdd,Nat.reduceSub,Nat.reduceLeDiff,reduceCtorEq])<;>rfl,by(simp only[go_sem, ↓reduceIte,Nat.reduceEqDiff,Nat.reduceAdd,Nat.reduceSub,Nat.reduceLeDiff,reduceCtorEq])<;>rfl,by(try dsimp only);omega,by(try dsimp only);omega,(hB.iff y hy).1 (by omega),tX.start ((hB.iff y hy).1 (by omega)),by(have OP:=dw (i:=o) (n:=st_b.next) (by omega));simp only[go_sem, ↓reduceIte,Nat.reduceEqDiff,Nat.reduceAdd,Nat.reduceSub,Nat.reduceLeDiff,reduceCtorEq,OP,bgo]⟩ ?_
   rintro m env_d st_d ⟨k,out,p,rfl,d13,d12,dgp,dpn,dpo,hkQ,tG,dgo⟩ dkp
   have d1:=dkp 1 (by kernel_rfl)
   have d8:=dkp 8 (by kernel_rfl)
   simp only[go_sem, ↓reduceIte,Nat.reduceEqDiff,Nat.reduceAdd,Nat.reduceSub,Nat.reduceLeDiff,reduceCtorEq,b1,b8]at d1 d8
   clear dkp
   have rF:=dw dpn
   have AY:=dw (i:=o) (n:=st_d.next) (by omega)
   have dL:=dm (a:=o) (b:=p) (by omega)
   have hol:=tG.len hB.lt
   have e7:=hB.lt k hkQ
   have pS:(out.map eN).length=out.length:=by simp
   by_cases Rg:k=x
   ·have hd:decide ((k:Int)=(x:Int))=true:=decide_eq_true (by rw[Rg])
    have SZ:0<out.length:=by
     obtain⟨rest,h1,_⟩:=tG
     rw[<-List.length_reverse,h1];simp
    (try((repeat(revert hN;revert N;apply Pn.out));refine wk (tw @d1 (tw @d8 (tw @d12 (tw @d13 (tw @hd @Bool.not_true))))) ?_;(repeat(refine Pn.mk ?_;intro N hN))))
    refine .inr (aV _ _ _ _ _ (fun r σ2 hq=>?_) (F8 out SZ (by omega) p _ dgp (by(try dsimp only);omega)))
    obtain⟨SD,lz,uJ⟩:=hq
    refine hN _ _ ?_
    clear hN N
    (try((repeat(revert hN;revert N;apply Pn.out));refine wk @d12 ?_;(repeat(refine Pn.mk ?_;intro N hN))))
    refine⟨[.own p 0 out.length],sd @d12,.sl (out.reverse.map eN),?_,.inr ⟨out.reverse,rfl,by subst Rg;exact tG.way hB.lt⟩⟩
    exact gu (sz:=1) SD (by simp) fun a=>MB _ 4 a
   ·have hd:decide ((k:Int)=(x:Int))=false:=decide_eq_false fun h=>Rg (by omega)
    obtain⟨u,huQ,hpu,yS,hr⟩:=hB.up k hkQ Rg
    have eJ:=dB (f:=par) e7
    rw[bq,hpu]at eJ
    have hki:(k:Int)<(cnt:Int):=by omega
    have e1:out.length+1<=16777216:=by omega
    (try((repeat(revert hN;revert N;apply Pn.out));refine wk (tw @d1 (tw @d8 (tw @d12 (tw @d13 (tw @hd (tw @Bool.not_false (tw @dgo (tw @dgp (tw @eJ (tw @tl (tw @hki (tw @rF (tw @AY (tw @dL (tw @pS @e1))))))))))))))) ?_;(repeat(refine Pn.mk ?_;intro N hN))))
    refine⟨_,yS,u,out++[u],⟨266021003,st_d.next+1+1⟩,rfl,sd @Nat.zero_add,by rw[List.length_append];simp only[go_sem, ↓reduceIte,Nat.reduceEqDiff,Nat.reduceAdd,Nat.reduceSub,Nat.reduceLeDiff,reduceCtorEq,List.length_cons,List.length_nil],by rw[List.map_append,List.map_cons,List.map_nil];simp only[go_sem, ↓reduceIte,Nat.reduceEqDiff,Nat.reduceAdd,Nat.reduceSub,Nat.reduceLeDiff,reduceCtorEq,eN],by(try dsimp only);omega,by(try dsimp only);omega,huQ,tG.step huQ yS hr,sd (tw @AY (tw @dL @dgo))⟩
end Go.Proofs.YtgoelphibofcmaaGreat.V

namespace Go.Proofs.YtgoelphibofcmaaGreat.V
open Go.RowKit
attribute [local irreducible] dD wpOps gI Call
attribute [local go_sem] aK fW eU gE gy cE upd ck K.av cN AV.cells AV.cell rowOf rowsOf part ld rowAt bB bY dO ev iI bK db eI gr e8 dx eB cZ cY ea ec bQ aY cQ bP cU cR ez eC eA cP bV da ew bL aL cW cF iH bz cK bR aU dh aT dP AV.undef bF bG eh eu dX dY cI eH eK cD eE eD cV cX List.getD_cons_zero List.getD_cons_succ List.getD_nil List.all_cons List.all_nil Bool.and_true Bool.true_and Bool.and_self Bool.not_true Bool.not_false Option.map_some Option.map_none Option.bind_some Option.bind_none List.length_cons List.length_nil List.take_succ_cons List.take_zero List.take_nil List.drop_succ_cons List.drop_zero List.drop_nil List.head?_cons List.map_cons List.map_nil List.getElem?_cons_zero List.getElem?_cons_succ List.cons_append List.nil_append List.append_nil List.length_map List.set_cons_zero List.set_cons_succ Nat.reduceMul eq_self Int.toNat_natCast Int.natCast_nonneg and_self true_and and_true decide_true decide_false Bool.false_eq_true Nat.zero_add Nat.add_zero List.contains_cons List.contains_nil Bool.or_false Bool.false_or beq_self_eq_true Nat.reduceBEq ne_eq not_true_eq_false not_false_eq_true Id.mk.injEq false_and and_false Nat.reduceLT Int.reduceLE Int.reduceLT Int.reduceToNat Int.reduceNeg Int.reduceAdd Nat.le_refl List.length_append beq_true beq_false Bool.not_eq_eq_eq_not or_false false_or dQ aj aq aH bd bE cm aW bc aN bf cL bU
theorem Ah (b:Nat):∀(l:List Nat) (a:Nat) (f:Nat->Nat->Int),lN f ((a::l)++[b])=j6 (lN f (a::l)) ((a::l).getLast (by simp)) b
 |[],a,f=>rfl
 |c::l,a,f=>by
  rw[List.cons_append,List.cons_append,lN,<-List.cons_append,Ah b l c (j6 f a c),lN,List.getLast_cons_cons]
theorem E4 {p:List Nat} {f:Nat->Nat->Int} {i:Nat} (h1:1<=i) (hi:i<p.length):lN f (p.take (i+1))=j6 (lN f (p.take i)) (p[i-1]'(by omega)) p[i]:=by
 rw[List.take_succ_eq_append_getElem hi]
 have fZ:p.take i≠[]:=by
  intro h
  have:(p.take i).length=0:=by rw[h];rfl
  rw[List.length_take]at this;omega
 obtain⟨a,l,Jt⟩:∃a l,p.take i=a::l:=by
  cases h:p.take i with
  |nil=>exact absurd h fZ
  |cons a l=>exact⟨a,l,rfl⟩
 have uN:(p.take i).getLast fZ=p[i-1]'(by omega):=by
  rw[List.getLast_eq_getElem,List.getElem_take]
  congr 1
  rw[List.length_take];omega
 simp only[Jt]at uN ⊢
 rw[Ah,uN]
theorem F4 (f:Nat->Nat->Int) (a b u v:Nat):j6 f a b u v<=f u v+1/\f u v-1<=j6 f a b u v:=by
 unfold j6 bump
 split<;>split<;>constructor<;>omega
theorem lO:∀(p:List Nat) (f:Nat->Nat->Int) (u v:Nat),lN f p u v<=f u v+p.length/\f u v-p.length<=lN f p u v
 |[],f,u,v=>by simp[lN]
 |[_],f,u,v=>by simp[lN];omega
 |a::b::r,f,u,v=>by
  rw[lN]
  have h1:=lO (b::r) (j6 f a b) u v
  have h2:=F4 f a b u v
  simp only[List.length_cons]at h1 ⊢
  omega
theorem nh.push {g g':Rows} {X o1 o2:Id} {R1 R2:Nat->Id} {n nb:Nat} {c f:Nat->Nat->Int} (I:EV X o1 o2 R1 R2 n nb) (h:nh g X o1 o2 R1 R2 n c f) {a b:Nat} (ha:a<n) (hb:b<n) (sO:a≠b) (hA:g' (R2 a)=some ⟨true,1,dG (bump f a b 1 a) n⟩) (hB:g' (R2 b)=some ⟨true,1,dG (bump (bump f a b 1) b a (-1) b) n⟩) (hf:∀i:Id,i.aZ<nb->(i=R2 a)=False->(i=R2 b)=False->g' i=g i):nh g' X o1 o2 R1 R2 n c (j6 f a b):=by
 have ne:∀{i:Id} {s:Nat},i.site=s->(s==245005006)=false->∀a,a<n->(i=R2 a)=False:=fun {i s} hi hs a ha=>by
  simp only[eq_iff_iff,iff_false]
  rintro rfl
  rw[I.LY a ha]at hi
  subst hi
  simp at hs
 refine⟨(hf _ I.vx (ne I.sx (by decide) _ ha) (ne I.sx (by decide) _ hb)).trans h.x,(hf _ I.v1 (ne I.s1 (by decide) _ ha) (ne I.s1 (by decide) _ hb)).trans h.t1,(hf _ I.v2 (ne I.s2 (by decide) _ ha) (ne I.s2 (by decide) _ hb)).trans h.t2,fun i hi=>(hf _ (I.RE i hi) (ne (I.RB i hi) (by decide) _ ha) (ne (I.RB i hi) (by decide) _ hb)).trans (h.r1 i hi),fun i hi=>?_⟩
 by_cases Jy:i=b
 ·subst Jy;exact hB
 ·by_cases Jw:i=a
  ·subst Jw
   rw[hA,j6,jO Jy]
  ·rw[j6,jO Jy,jO Jw,hf _ (I.OZ i hi) (by simp only[eq_iff_iff,iff_false];exact fun he=>Jw (I.i2 i _ hi ha he)) (by simp only[eq_iff_iff,iff_false];exact fun he=>Jy (I.i2 i _ hi hb he))]
   exact h.r2 i hi
theorem NO (cnt:Nat) (zZ:1<=cnt) (hn:cnt<=1048576) (c:Nat->Nat->Int) (hc:∀u v,u<cnt->v<cnt->0<=c u v/\c u v<=16777216) (x y:Nat) (hx:x<cnt) (hy:y<cnt) (LQ:x≠y) (t:Int) (ht:t<=1099511627776)
  (X o1 o2:Id) (R1 R2:Nat->Id) (nb:Nat) (I:EV X o1 o2 R1 R2 cnt nb) (σ:ar) (hM:nh σ.get X o1 o2 R1 R2 cnt c (fun _ _=>0)) (Rm:nb<=σ.next):
  Call Tryz.prog 246 [.ptr X 0 0,.int .i64 x,.int .i64 y,.int .i64 t] σ fun r σ'=>∃val:Int,r=.int .i64 val/\(val<t↔∃S:Nat->Bool,S x=true/\S y=false/\lP cnt S c<t)/\σ.next<=σ'.next:=by
 refine gW eG rfl fun hl=>?_
 clear hl
 have hxS:(fun v=>decide (v=x)) x=true:=by simp
 have hyS:(fun v=>decide (v=x)) y=false:=by simp;exact fun h=>LQ h.symm
 obtain⟨top,Tb⟩:∃top,top=lP cnt (fun v=>decide (v=x)) c:=⟨_,rfl⟩
 (try((repeat(revert hN;revert N;apply Pn.out));refine wk @Nat.zero_add ?_;(repeat(refine Pn.mk ?_;intro N hN))))
 refine aJ (fun m env st=>∃(k:Nat) (f:Nat->Nat->Int),m=(top-k).toNat/\env 9=.int .i64 (k:Int)/\k9 cnt c f x y k/\nh st.get X o1 o2 R1 R2 cnt c f/\σ.next<=st.next/\(0<k->(k:Int)<=t)/\∀u v,-((k:Int)*(cnt:Int))<=f u v) (top-0).toNat ⟨0,fun _ _=>0,rfl,by(simp only[go_sem, ↓reduceIte,Nat.reduceEqDiff,Nat.reduceAdd,Nat.reduceSub,Nat.reduceLeDiff,reduceCtorEq])<;>rfl,k9.zero fun u v hu hv=>(hc u v hu hv).1,hM,by(try dsimp only);omega,fun h=>absurd h (Nat.lt_irrefl 0),fun u v=>by simp⟩ ?_
 rintro m env_b st_b ⟨k,f,rfl,b9,hF,bM,bn,bk,blo⟩ bkp
 have b0:=bkp 0 (by kernel_rfl)
 have b1:=bkp 1 (by kernel_rfl)
 have b2:=bkp 2 (by kernel_rfl)
 have b3:=bkp 3 (by kernel_rfl)
 simp only[go_sem, ↓reduceIte,Nat.reduceEqDiff,Nat.reduceAdd,Nat.reduceSub,Nat.reduceLeDiff,reduceCtorEq]at b0 b1 b2 b3
 clear bkp
 have hz:cG (dQ st_b.get) 6 [.ptr X 0 0,.int .i64 (x:Int),.int .i64 (y:Int)]=some [.cr (lg cnt c f),.int .i64 x,.int .i64 y]:=by simp only[aj,aq,bM.fz,aH,Option.map_some]
 (try((repeat(revert hN;revert N;apply Pn.out));refine wk (tw @b0 (tw @b1 (tw @b2 (tw @b3 @b9)))) ?_;(repeat(refine Pn.mk ?_;intro N hN))))
 refine .inr (aV _ _ _ _ _ (fun r σ1 hq=>?_) ((Qz cnt zZ hn c f x y hx hy).x mixed hz))
 obtain⟨Nk,rfl⟩:=hq
 refine hN _ _ ?_
 clear hN N
 rcases Nk with⟨rfl,S,MX,MY,Q0⟩|⟨p,rfl,hW⟩
 ·(try((repeat(revert hN;revert N;apply Pn.out));refine wk (tw @b0 (tw @b1 (tw @b2 (tw @b3 (tw @b9 (tw @Bool.not_true @Bool.not_false)))))) ?_;(repeat(refine Pn.mk ?_;intro N hN))))
  refine gK (.inl rfl) (vs:=[.int .i64 (k:Int)]) (sd @Nat.zero_add) ⟨(k:Int),rfl,⟨fun h=>⟨S,MX,MY,by rw[<-hF.full MX MY Q0];exact h⟩,fun⟨S',h1,h2,h3⟩=>by have:=hF.bound h1 h2;omega⟩,by(try dsimp only);omega⟩
 ·obtain⟨⟨rs,rfl,uN⟩,oI,fV,hplt⟩:=hW
  by_cases Ke:t<=(k:Int)
  ·(try((repeat(revert hN;revert N;apply Pn.out));refine wk (tw @b0 (tw @b1 (tw @b2 (tw @b3 (tw @b9 (tw @Ke (tw @Bool.not_true @Bool.not_false))))))) ?_;(repeat(refine Pn.mk ?_;intro N hN))))
   refine gK (.inl rfl) (vs:=[.int .i64 (k:Int)]) (sd @Nat.zero_add) ⟨(k:Int),rfl,⟨fun h=>by omega,fun⟨S',h1,h2,h3⟩=>by have:=hF.bound h1 h2;omega⟩,by(try dsimp only);omega⟩
  ·(try((repeat(revert hN;revert N;apply Pn.out));refine wk (tw @b0 (tw @b1 (tw @b2 (tw @b3 (tw @b9 (tw @Ke (tw @Bool.not_true @Bool.not_false))))))) ?_;(repeat(refine Pn.mk ?_;intro N hN))))
   have l9:=oe cnt _ oI hplt
   have hkc:(k:Int)*(cnt:Int)<=1099511627776*1048576:=Int.mul_le_mul (by omega) (by omega) (by omega) (by omega)
   have hfb:=hF.bound (S:=fun v=>decide (v=x)) hxS hyS
   have hnear:=lO
   obtain⟨p,hp⟩:∃p,p=x::rs:=⟨_,rfl⟩
   have hmp:eN x::List.map eN rs=p.map eN:=by rw[hp];rfl
   rw[hmp]
   have Nh:1<=p.length:=by rw[hp];simp
   have Sa:=hF.aug uN oI fV hplt
   rw[<-hp]at Sa oI fV hplt l9
   have Nr:p.take 1=[x]:=by rw[hp];rfl
   clear hmp uN
   refine aJ (fun m env st=>∃i:Nat,m=p.length-i/\1<=i/\i<=p.length/\env 11=.int .i64 (i:Int)/\nh st.get X o1 o2 R1 R2 cnt c (lN f (p.take i))/\st_b.next<=st.next) (p.length-1) ⟨1,rfl,Nat.le_refl _,Nh,by(simp only[go_sem, ↓reduceIte,Nat.reduceEqDiff,Nat.reduceAdd,Nat.reduceSub,Nat.reduceLeDiff,reduceCtorEq])<;>rfl,by rw[Nr];exact bM,by(try dsimp only);omega⟩ ?_
   rintro m env_c st_c ⟨i,rfl,Kb,ly,nq,cM,cn⟩ ckp
   have c0:=ckp 0 (by kernel_rfl)
   have c1:=ckp 1 (by kernel_rfl)
   have c2:=ckp 2 (by kernel_rfl)
   have c3:=ckp 3 (by kernel_rfl)
   have c9:=ckp 9 (by kernel_rfl)
   have jn:=ckp 10 (by kernel_rfl)
   simp only[go_sem, ↓reduceIte,Nat.reduceEqDiff,Nat.reduceAdd,Nat.reduceSub,Nat.reduceLeDiff,reduceCtorEq,b0,b1,b2,b3,b9]at c0 c1 c2 c3 c9 jn
   clear ckp
   have pS:(p.map eN).length=p.length:=by simp
   by_cases hi:(i:Int)<(p.length:Int)
   ·have fB:i<p.length:=by omega
    have wT:=E4 (f:=f) Kb fB
    obtain⟨a,ha⟩:∃a,a=p[i-1]'(by omega):=⟨_,rfl⟩
    obtain⟨b,hb⟩:∃b,b=p[i]:=⟨_,rfl⟩
    have Eg:a<cnt:=by rw[ha];exact hplt _ (List.getElem_mem _)
    have Eh:b<cnt:=by rw[hb];exact hplt _ (List.getElem_mem _)
    have sO:a≠b:=by
     rw[ha,hb]
     exact List.pairwise_iff_getElem.1 oI (i-1) i (by omega) fB (by omega)
    have PJ:(p.map eN)[i-1]? =some [.int .i64 (a:Int)]:=by rw[List.getElem?_map,List.getElem?_eq_getElem (by omega),ha];rfl
    have PK:(p.map eN)[i]? =some [.int .i64 (b:Int)]:=by rw[List.getElem?_map,List.getElem?_eq_getElem fB,hb];rfl
    rw[<-ha,<-hb]at wT
    have SP:=lO (p.take i) f a b
    have SQ:=lO (p.take i) f b a
    rw[List.length_take]at SP SQ
    have hl1:=blo b a
    have PQ:=blo a b
    have P5:=hF.le a b Eg Eh
    have hu2:=hF.le b a Eh Eg
    have hca:=hc a b Eg Eh
    have Ei:=hc b a Eh Eg
    generalize lN f (p.take i)=fl at *
    have gA:=re (R:=R2) (n:=cnt) Eg
    have gB:=re (R:=R2) (n:=cnt) Eh
    have rA:=cM.r2 _ Eg
    have rB:=cM.r2 _ Eh
    have cA:=dB (f:=fl a) Eh
    have cB:=dB (f:=fl b) Eg
    have sA:=nN (f:=fl) (a:=a) (d:=1) Eh
    have Nf:bump fl a b 1 b=fl b:=jO fun h=>sO h.symm
    have sB:=nN (f:=bump fl a b 1) (a:=b) (b:=a) (d:=-1) (n:=cnt) Eg
    rw[Nf]at sB
    have gX:=cM.x
    have g2:=cM.t2
    have gn:(a:Int)<(cnt:Int):=by omega
    have fw:(b:Int)<(cnt:Int):=by omega
    have Rw:IntKind.i64.wrap ((i:Int)-1)=((i-1:Nat):Int):=by rw[bp (by omega)];omega
    have xC:((i-1:Nat):Int)<(p.length:Int):=by omega
    have wA:IntKind.i64.wrap (fl a b+1)=fl a b+1:=bp (by omega)
    have wB:IntKind.i64.wrap (fl b a-1)=fl b a+-1:=by rw[bp (by omega)];omega
    have LO:IntKind.i64.wrap ((i:Int)+1)=((i+1:Nat):Int):=ax (by omega)
    have l2:=jV R2 cnt cnt
    have lA:=dt (fl a) cnt
    have lB:=dt (fl b) cnt
    have fZ:(R2 a=R2 b)=False:=by simp only[eq_iff_iff,iff_false];exact fun h=>sO (I.i2 _ _ Eg Eh h)
    have HQ:(R2 b=R2 a)=False:=by simp only[eq_iff_iff,iff_false];exact fun h=>sO (I.i2 _ _ Eg Eh h.symm)
    have xA:=zC I.sx (I.LY a Eg) (by decide)
    have xB:=zC I.sx (I.LY b Eh) (by decide)
    have yA:=zC I.s2 (I.LY a Eg) (by decide)
    have yB:=zC I.s2 (I.LY b Eh) (by decide)
    have qX:=dw (i:=X) (n:=st_c.next) (by have:=I.vx;omega)
    have q2:=dw (i:=o2) (n:=st_c.next) (by have:=I.v2;omega)
    have qA:=dw (i:=R2 a) (n:=st_c.next) (by have:=I.OZ a Eg;omega)
    have qB:=dw (i:=R2 b) (n:=st_c.next) (by have:=I.OZ b Eh;omega)
    rw[bq]at cA cB sA sB
    (try((repeat(revert hN;revert N;apply Pn.out));refine wk (tw @c0 (tw @c9 (tw @jn (tw @nq (tw @pS (tw @hi (tw @xC (tw @PJ (tw @PK (tw @gA (tw @gB (tw @rA (tw @rB (tw @cA (tw @cB (tw @sA (tw @sB (tw @gX (tw @g2 (tw @gn (tw @fw (tw @Rw (tw @wA (tw @wB (tw @LO (tw @l2 (tw @lA (tw @lB (tw @fZ (tw @HQ (tw @xA (tw @xB (tw @yA (tw @yB (tw @qX (tw @q2 (tw @qA @qB))))))))))))))))))))))))))))))))))))) ?_;(repeat(refine Pn.mk ?_;intro N hN))))
    refine⟨_,?_,i+1,rfl,by omega,by omega,sd @LO,?_,by(try dsimp only);omega⟩
    ·omega
    ·rw[wT]
     refine cM.push I Eg Eh sO ?_ ?_ fun j hj h1 h2=>?_
     ·simp only[go_sem, ↓reduceIte,Nat.reduceEqDiff,Nat.reduceAdd,Nat.reduceSub,Nat.reduceLeDiff,reduceCtorEq,fZ]
     ·simp only[go_sem, ↓reduceIte,Nat.reduceEqDiff,Nat.reduceAdd,Nat.reduceSub,Nat.reduceLeDiff,reduceCtorEq,fZ]
     ·simp only[go_sem, ↓reduceIte,Nat.reduceEqDiff,Nat.reduceAdd,Nat.reduceSub,Nat.reduceLeDiff,reduceCtorEq,h1,h2]
   ·have El:i=p.length:=by omega
    subst El
    rw[List.take_length]at cM
    have Kr:IntKind.i64.wrap ((k:Int)+1)=((k+1:Nat):Int):=ax (by omega)
    have Sz:=Sa.bound (S:=fun v=>decide (v=x)) hxS hyS
    (try((repeat(revert hN;revert N;apply Pn.out));refine wk (tw @c0 (tw @c9 (tw @jn (tw @nq (tw @pS (tw @hi @Kr)))))) ?_;(repeat(refine Pn.mk ?_;intro N hN))))
    refine⟨_,?_,k+1,_,rfl,sd @Kr,by rw[Int.natCast_add];exact Sa,cM,by(try dsimp only);omega,fun _=>by omega,fun u v=>?_⟩
    ·rw[<-Tb]at Sz;omega
    ·have h1:=(lO p f u v).2
     have h2:=blo u v
     rw[Int.natCast_add,Int.add_mul]
     omega
end Go.Proofs.YtgoelphibofcmaaGreat.V
