/- The library's sort of placed tiles, brought into the small language. -/
import Derived.Test.YtainmfbpilopaaaGreatDoorGnC
import Derived.Test.YtainmfbpilopaaaGreatDoorGnB
import Derived.Maps.RangeRun
import Derived.Test.YtainmfbpilopaaaGreatDoorChecked
import Derived.RangeFuncNested
import Derived.RangeFuncBound
import Derived.RangeFuncCalls
import Derived.RangeFuncLeaves
import Derived.Shelf.Abstract
import Derived.Shelf.RegionOpen
import Derived.WalkKit
import Derived.OwnWalkIn
import Derived.TacticsInMore
import Derived.LoopNIn
import Derived.LoopIn
import Derived.BigQuiet
import Derived.RangeFuncBox
import Derived.RangeFuncWrites
import Derived.Maps.AppendAt
set_option linter.unusedVariables false
set_option linter.unusedSimpArgs false
set_option maxRecDepth 100000
set_option maxHeartbeats 16000000
namespace Go.Proofs.YtainmfbpilopaaaGreatDoor.V
open Go.RowKit Go.Shelf Go.Lib Go.Sort
instance:Inhabited aa:=⟨⟨⟨0,0⟩,0⟩⟩
variable {P:Program} {w:World} {D:Nat->Prop} {ι:Names}
def JO (a b:aa):Int:=qh a.aI b.aI
theorem xN (a b:aa):ltOf JO a b=ju a.aI b.aI:=by rw[ltOf,JO,mX]
def L4:Prop:=∀(vd off cap:Nat) (d:Array aa) (w:World),HoldsK fX 3 w vd off d->vd<w.heap.size->d.size<4611686018427387904->
 Calls Tryz.prog 213 #[.slice (some ⟨vd,off,none⟩) d.size cap,.func (.func 214) #[] #[]] w fun e w'=>e=.returned (.tuple #[])/\∃d' n os,PermIn 0 d.size d d'/\SortedIn (ltOf JO) 0 d.size d'/\w'=sortWorldK fX 3 w vd off n d' os
def L5:Prop:=∀(p:Option Addr) (cap:Nat) (fv:Value) (w:World),Calls Tryz.prog 213 #[.slice p 0 cap,fv] w fun e w'=>e=.returned (.tuple #[])/\w'=w
theorem Ms (p:aa) (j:Nat) (a:AV) (h:(ab p)[j]? =some a) (P:Program) (w:World) (D:Nat->Prop) (ι:Names):du P w D ι a (fX p)[j]! :=by
 match j,h with
 |0,h=>simp[ab]at h;subst h;exact .eX _ _ (.int _ _)
 |1,h=>simp[ab]at h;subst h;exact .eX _ _ (.int _ _)
 |2,h=>simp[ab]at h;subst h;exact .eX _ _ (.int _ _)
 |j+3,h=>simp[ab]at h
theorem Le (hC:L4) (hN:L5) (ps:List aa) (hlen:ps.length<=1048576) (σ:ax) (id:Id) (hg:σ.get id=some ⟨true,3,ps.map ab⟩):
  Call Tryz.prog 213 [.own id 0 ps.length,.fn 214 []] σ fun r σ'=>σ'.next=σ.next/\(∀x,x≠id->σ'.get x=σ.get x)/\∃qs,σ'.get id=some ⟨true,3,qs.map ab⟩/\qs.length=ps.length/\qs.Perm ps/\∀i j:Nat,i<j->j<qs.length->ju (aA qs j).aI (aA qs i).aI=false:=by
 refine fG fun hs D ι w vs S U A=>?_
 obtain⟨u1,us1,rfl,h1,h2⟩:=j3 A
 obtain⟨u2,us2,h3,h4,h5⟩:=j3 h2
 simp at h3;subst h3
 have:=uI h5
 simp at this;subst this
 obtain⟨o,cap,B,rfl,hB,yY,ho,kF,hmax,hk⟩:=jq h1
 obtain⟨Yf,gf,rfl,_,hz,_,_⟩:=wF h4
 have hz':Yf= #[]:=Array.eq_empty_of_size_eq_zero (by simpa using hz)
 subst hz'
 by_cases h0:ps=[]
 ·subst h0
  refine(hN _ _ _ w).mono ?_
  rintro e w' ⟨rfl,rfl⟩
  exact⟨.fP [],σ.get,σ.next,D,ι,_,rfl,⟨rfl,fun _ _=>rfl,[],hg,rfl,List.Perm.refl _,fun i j _ hj=>by simp at hj⟩,Step.refl _ _ _ _,S,U,Nat.le_refl _,.fP [] #[] (fun _=>Go.undef) rfl (fun j hj=>by simp at hj) (fun j a h=>by simp at h)⟩
 have kH:0<ps.length:=List.length_pos_iff.2 h0
 obtain⟨B',eA,R,lW,sD⟩:=S.row id _ hg
 rw[hB]at eA;injection eA with eA;subst eA
 replace R:=R.row hk
 have ew:B.sz=3:=R.sz
 have DW:o=0:=by rcases ho with h|h<;>omega
 subst DW
 obtain⟨cur,T,hblk,ek,pw⟩:=R.cur
 have y4:ps.length*3<=B.C:=by simpa using R.fits
 have hH:HoldsK fX 3 w B.b 0 ps.toArray:=by
  intro t ht
  rw[size_flatK]at ht
  have ht2:t<ps.length*3:=by simpa using ht
  have hi:t / 3<ps.length:=ae
  have PY:w.frozen? ⟨B.b,0+t,none⟩=false:=by
   simp only[World.frozen?,hblk];simp
  refine⟨?_,PY⟩
  rw[get_flatK _ _ _ _ ht]
  have hd:(ps.toArray)[t / 3]! =ps[t / 3]:=by simp[getElem!_pos,hi]
  rw[hd]
  have hj:t % 3=0∨t % 3=1∨t % 3=2:=ae
  have ht3:0+t=(t / 3)*3+t % 3:=ae
  rw[ht3]
  rcases hj with hj|hj|hj
  ·obtain⟨v,hv,hr⟩:=R.at_ (t / 3) 0 (ab ps[t / 3]) _ (by simp[hi]) rfl
   rw[eb hr]at hv
   rw[hj];exact hv
  ·obtain⟨v,hv,hr⟩:=R.at_ (t / 3) 1 (ab ps[t / 3]) _ (by simp[hi]) rfl
   rw[eb hr]at hv
   rw[hj];exact hv
  ·obtain⟨v,hv,hr⟩:=R.at_ (t / 3) 2 (ab ps[t / 3]) _ (by simp[hi]) rfl
   rw[eb hr]at hv
   rw[hj];exact hv
 have iz:B.b<w.heap.size:=(Array.getElem?_eq_some_iff.1 hblk).1
 have MP:=hC B.b 0 cap ps.toArray w hH iz (by simp;omega)
 rw[show ps.toArray.size=ps.length from by simp]at MP
 refine MP.mono ?_
 rintro e w' ⟨rfl,d',m,os,⟨Ay,_,sE⟩,hsort,rfl⟩
 have y3:d'.size=ps.length:=by rw[Ay];simp
 have Xy:d'.toList.length=ps.length:=by simpa using y3
 have hP:d'.toList.Perm ps:=by
  have e1:d'.extract 0 ps.length=d':=by rw[<-y3];exact Array.extract_size
  have e2:ps.toArray.extract 0 ps.length=ps.toArray:=by
   have:ps.length=ps.toArray.size:=by simp
   rw[this];exact Array.extract_size
  rw[e1,e2]at sE
  simpa using sE
 have hF:∀t,t<ps.length*3->(flatK fX 3 d')[t]! =(fX d'[t / 3]!)[t % 3]! :=fun t ht=>get_flatK _ _ _ _ (by rw[y3];exact ht)
 have WH:(flatK fX 3 d').size=ps.length*3:=by rw[size_flatK,y3]
 have hw:sortWorldK fX 3 w B.b 0 m d' os=Go.Sort.grow (Go.Sort.putRow (fun v:Value=>v) (Go.Sort.ahead w m) B.b 0 (flatK fX 3 d')) os:=rfl
 rw[hw]
 clear hw hH
 generalize flatK fX 3 d'=Fl at hF WH ⊢
 have uq:=S.put (r':=⟨true,3,d'.toList.map ab⟩) (cur':=Go.Sort.putCells (fun v:Value=>v) 0 Fl cur) hg rfl hB hblk (by simp[Go.Sort.putCells]) rfl rfl (by simpa[y3]using y4) (fun cs ek=>by
   obtain⟨x,_,rfl⟩:=List.mem_map.1 ek;rfl) (fun cs ek a ha=>by
   obtain⟨x,_,rfl⟩:=List.mem_map.1 ek
   simp[ab]at ha;rcases ha with rfl|rfl|rfl<;>rfl) (fun i j cs a hi hj=>by
   have xD:i<d'.toList.length:=by
    have:=(List.getElem?_eq_some_iff.1 hi).1
    simpa using this
   have TB:j<3:=by
    have:=List.mem_of_getElem? hi
    obtain⟨x,_,rfl⟩:=List.mem_map.1 this
    exact(List.getElem?_eq_some_iff.1 hj).1
   have Tu:cs=ab d'[i]! :=by
    rw[List.getElem?_map,List.getElem?_eq_getElem xD]at hi
    simp at hi
    rw[<-hi,getElem!_pos d' i (by simpa using xD)]
   subst Tu
   have GB:i*3+j<ps.length*3:=ae
   refine⟨(fX d'[i]!)[j]!,?_,Ms _ _ _ hj _ _ _ _⟩
   have pP:i*3+j<cur.size:=by rw[ek];omega
   show(Go.Sort.putCells (fun v:Value=>v) 0 Fl cur)[i*3+j]? = _
   simp only[Go.Sort.putCells,Array.getElem?_mapIdx,Array.getElem?_eq_getElem pP,Option.map_some]
   rw[if_pos ⟨Nat.zero_le _,by rw[WH];omega⟩,Nat.sub_zero,hF _ GB,show(i*3+j) / 3=i from by omega,show(i*3+j) % 3=j from by omega])
 obtain⟨S1,tO⟩:=uq
 have gW:(Go.Sort.putRow (fun v:Value=>v) (Go.Sort.ahead w m) B.b 0 Fl).heap.size=w.heap.size:=by simp
 have E5:∀k,k<(w.setRow B.b (Go.Sort.putCells (fun v:Value=>v) 0 Fl cur)).heap.size->(Go.Sort.grow (Go.Sort.putRow (fun v:Value=>v) (Go.Sort.ahead w m) B.b 0 Fl) os).heap[k]? =(w.setRow B.b (Go.Sort.putCells (fun v:Value=>v) 0 Fl cur)).heap[k]? :=fun k hk=>by
  have Hv:k<w.heap.size:=by simpa using hk
  rw[heap_grow_old _ _ (by rw[gW];exact Hv)]
  simp only[Go.Sort.putRow,Go.Sort.mapBlock,heap_ahead,Array.getElem?_modify]
  by_cases O6:B.b=k
  ·subst O6
   rw[setRow_heap w B.b cur _ T _ hblk,if_pos rfl,hblk];rfl
  ·rw[if_neg O6,setRow_other w B.b k _ (fun h=>O6 h.symm)]
 have rV:(w.setRow B.b (Go.Sort.putCells (fun v:Value=>v) 0 Fl cur)).heap.size<=(Go.Sort.grow (Go.Sort.putRow (fun v:Value=>v) (Go.Sort.ahead w m) B.b 0 Fl) os).heap.size:=by
  rw[size_grow,gW];simp
 have S2:=S1.stay (D':=D) (ι':=ι) E5 rV (fun _ h=>h) (fun b hb=>Nat.lt_of_lt_of_le (S1.dead b hb) rV) (fun _ h=>.inl h) (fun _ _ h=>h)
 have Pm:=tO.trans (Step.stay (D':=D) (ι':=ι) S1 E5 rV (by simp[Go.Sort.grow,Go.Sort.putRow,Go.Sort.mapBlock,Go.Sort.ahead]) (by simp[Go.Sort.grow,Go.Sort.putRow,Go.Sort.mapBlock,Go.Sort.ahead]) (by simp[Go.Sort.grow,Go.Sort.putRow,Go.Sort.mapBlock,Go.Sort.ahead]) (fun _ h=>h) (fun _ h=>.inl h) (fun _ _ h=>h))
 refine⟨.fP [],bI σ.get id ⟨true,3,d'.toList.map ab⟩,σ.next,D,ι,_,rfl,⟨rfl,fun x hx=>by simp[bI,hx],d'.toList,by simp[bI],Xy,hP,fun i j BC hj=>?_⟩,Pm,S2,U,Nat.le_refl _,.fP [] #[] (fun _=>Go.undef) rfl (fun j hj=>by simp at hj) (fun j a h=>by simp at h)⟩
 have h:=hsort i j (Nat.zero_le _) BC ae
 rw[xN]at h
 have e1:d'[j]! =aA d'.toList j:=by rw[ez hj,getElem!_pos d' j (by simpa using hj)];rfl
 have hi:i<d'.toList.length:=ae
 have e2:d'[i]! =aA d'.toList i:=by rw[ez hi,getElem!_pos d' i (by simpa using hi)];rfl
 rw[<-e1,<-e2];exact h
theorem Sn {w w':World} (h:Grown w w') (os:Array Obj):Grown w (Go.Sort.grow w' os):=by
 obtain⟨q,os0,rfl⟩:=h
 exact⟨q,os0++os,by rw[grow_grow]⟩
theorem Pz (w:World) (a b:aa):Calls Tryz.prog 214 #[.agg #[.int .i64 a.aI.eV,.int .i64 a.aI.eQ,.int .i64 a.aY],.agg #[.int .i64 b.aI.eV,.int .i64 b.aI.eQ,.int .i64 b.aY]] w fun e w'=>e=.returned (.int .i64 (JO a b))/\Grown w w':=by
 go_enter Tryz.func214,Tryz.ntmps214
 go_wp2_with (first|(go_at_call 189;refine(pj _ a.aI b.aI).mono ?_;rintro e w' ⟨rfl,hG⟩))
 obtain⟨q,os,rfl⟩:=hG
 go_ret
 refine⟨rfl,Sn (Grown.dN ?_ q) os⟩
 repeat(first|(with_reducible exact Grown.refl _)|(refine Grown.alloc ?_ _)|(refine Grown.drew ?_)|(refine Grown.dN ?_ _))
theorem swoA:SWO (ltOf JO) where
 irrefl x:=by rw[xN];exact iD
 trans x y z h1 h2:=by rw[xN]at *;exact iF h1 h2
 ntrans x y z h1 h2:=by rw[xN]at *;rw[nY]at *;omega
theorem Ux:L4:=fun vd off cap d w hH hblk ew=>by
 have eg:∀args w,(callFunc 214 args).run Tryz.prog w=.ok (.enter 214 args) w:=enters_of Tryz.func214 (by kernel_rfl) rfl
 have h:=AnyQ.slices_SortFunc Tryz.Og 3 Tryz.isAgg64 Tryz.sizeOf64 fX (fun _=>rfl) (fun x v hv=>by simp[fX]at hv;rcases hv with rfl|rfl|rfl<;>rfl) JO swoA 214 #[] vd off cap d w eg (fun m os dk _ x y=>(Pz _ x y).mono fun _ _ ⟨he,q,os',hw⟩=>⟨he,q,os',hw⟩) hH hblk ew
 exact h
theorem Uy:L5:=fun p cap fv w=>AnyF.slices_SortFunc_none Tryz.Og p cap fv w
end Go.Proofs.YtainmfbpilopaaaGreatDoor.V

namespace Go.Proofs.YtainmfbpilopaaaGreatDoor.V
open Go.RowKit
attribute [local irreducible] ea wpOps fB Call
theorem R7 {σ:ax} {c T O:Id} {s:au} {ts:List aa} (h:jx σ.get σ.next c T O s ts) (hS:gy s.aD) (hF:∀q,0<=eM ts q->eE s.aD (eM ts q)=true) (p:ai) (hp:xG p=true) (t:Int) (ht:eE s.aD t=true) (h0:dm ts p<0):
  Call Tryz.prog 102 [.ptr c 0 0,.agg (ad p),.int .i64 t] σ (fun r σ'=>r=.fP []/\jx σ'.get σ'.next c T O s (ts++[⟨p,t⟩])/\σ.next<=σ'.next/\∀x:Id,x.bq<σ.next->x≠T->x≠O->σ'.get x=σ.get x):=by
 refine eZ fx rfl fun fD=>?_
 clear fD
 obtain⟨hx,hy⟩:=oR hp
 have lT:=iZ.1 h0
 have PV:∀q,0<=eM (ts++[⟨p,t⟩]) q->eE s.aD (eM (ts++[⟨p,t⟩]) q)=true:=fun q hq=>by
  rw[qO q lT]at hq ⊢
  split at hq
  ·rename_i he;rw[if_pos he];exact ht
  ·rename_i he;rw[if_neg he];exact hF q hq
 obtain⟨rows,ho,hw⟩:=h.op
 obtain⟨fi,Aq⟩:=FY hw p.eV p.eQ
 have h1:=h.row
 have h2:=h.tl
 have v1:=bZ h.cv
 have v2:=bZ h.tv
 have v3:=bZ h.ov
 have hm:=mA h0
 have cT:=eq_false h.cT
 have cO:=eq_false h.cO
 have TO:=eq_false h.TO
 have Tc:=eq_false (fun e:T=c=>h.cT e.symm)
 have Oc:=eq_false (fun e:O=c=>h.cO e.symm)
 have OT:=eq_false (fun e:O=T=>h.TO e.symm)
 (try((repeat(revert N;apply Pn.out));refine wk (tw @h1 (tw @h2 (tw @ho (tw @v1 (tw @v2 (tw @v3 (tw @hm (tw @Aq (tw @cT (tw @cO (tw @TO (tw @Tc (tw @Oc (tw @OT @ad.eq_1)))))))))))))) ?_;(repeat(apply Pn.mk;intro N hN))))
 have hG:∀x:Id,x.bq<σ.next->x≠T->x≠O->(bI (bI (bI σ.get ⟨102000000,σ.next⟩ ⟨true,2,[[.int .i64 p.eV,.int .i64 p.eQ]]⟩) T ⟨true,mP.j4,ts.map ab++[[.int .i64 p.eV,.int .i64 p.eQ,.int .i64 t]]⟩) O ⟨true,mP.j4,dq rows fi⟩) x=σ.get x:=fun x Ng TX zd=>by
  have a1:=eq_false TX
  have a2:=eq_false zd
  have a3:=bZ Ng
  simp only[go_sem, ↓reduceIte,Nat.reduceEqDiff,Nat.reduceAdd,Nat.reduceSub,Nat.reduceLeDiff,reduceCtorEq,a1,a2,a3]
 have hC:jx (bI (bI (bI σ.get ⟨102000000,σ.next⟩ ⟨true,2,[[.int .i64 p.eV,.int .i64 p.eQ]]⟩) T ⟨true,mP.j4,ts.map ab++[[.int .i64 p.eV,.int .i64 p.eQ,.int .i64 t]]⟩) O ⟨true,mP.j4,dq rows fi⟩) (σ.next+1+1+1+1) c T O s (ts++[⟨p,t⟩]):=
  ⟨(hG c h.cv h.cT h.cO).trans h1,by simp only[go_sem, ↓reduceIte,Nat.reduceEqDiff,Nat.reduceAdd,Nat.reduceSub,Nat.reduceLeDiff,reduceCtorEq,TO];rw[List.map_append];rfl,⟨_,sd @Nat.zero_add,NQ hw fi⟩,by have:=h.cv;omega,by have:=h.tv;omega,by have:=h.ov;omega,h.cT,h.cO,h.TO⟩
 refine .inr (ay _ _ _ _ _ (fun r σ1 hq=>?_) (uy (σ:=⟨_,σ.next+1+1+1+1⟩) hC.xO hC.cO hC.TO hC.op hS PV p hx hy))
 obtain⟨g1,x1⟩:=σ1
 obtain⟨rfl,hL⟩:=hq
 (try dsimp only at hL)
 have oL:=hC.look (σ:=⟨_,σ.next+1+1+1+1⟩) hL
 have hn:=hL.1
 have hf:=hL.2.1
 (try dsimp only at hn hf)
 apply hN
 clear hN N
 (try((repeat(revert N;apply Pn.out));refine wk @Nat.zero_add ?_;(repeat(apply Pn.mk;intro N hN))))
 exact eo (.inr rfl) (vs:=[]) rfl ⟨rfl,oL.frame aH fun _ _=>rfl,aH,fun x Ng TX zd=>(hf x ae zd).trans (hG x Ng TX zd)⟩
end Go.Proofs.YtainmfbpilopaaaGreatDoor.V

namespace Go.Proofs.YtainmfbpilopaaaGreatDoor.V
open Go.RowKit
def F6 (m:MK) (it nx ok en:Nat) (id:Id) (B:(Ex->Env->ax->Prop)->Env->ax->Prop) (b b1:Nat) (Q:Ex->Env->ax->Prop):Nat->List (List AV)->Env->ax->Prop
 |0,_,env,σ=>env it=.ptr id 0 0/\Q .normal (upd (upd env (some nx) (.fP [.bool false])) (some ok) (.bool false)) ⟨σ.get,σ.next+1⟩
 |n+1,left,env,σ=>env it=.ptr id 0 0/\∀i cs kv vv,left[i]? =some cs->part m.ka m.ks cs=some kv->cs[m.ks]? =some vv->
   B (bd b1 (de (F6 m it nx ok en id B b b1 Q n (left.eraseIdx i)) (bd b Q))) (upd (upd (upd env (some nx) (.fP [.bool true,kv,vv])) (some ok) (.bool true)) (some en) (.fP [kv,vv])) ⟨σ.get,σ.next+1⟩
def K7 (m:MK) (tm:O) (site it nx ok en:Nat) (B:(Ex->Env->ax->Prop)->Env->ax->Prop) (b b1:Nat) (Q:Ex->Env->ax->Prop) (env:Env) (σ:ax):Prop:=
 ∃id r,dj env tm=.map id m/\σ.get id=some r/\r.w=true/\F6 m it nx ok en ⟨site,σ.next⟩ B b b1 Q r.rows.length r.rows (upd env (some it) (.ptr ⟨site,σ.next⟩ 0 0)) ⟨bI σ.get id {r with w:=false},σ.next+1⟩
variable {P:Program} {w w':World} {D D':Nat->Prop} {ι ι':Names} {hs:Nat} {g:Rows}
theorem lr.Hf (hc:∀b x,D b->w'.cell? ⟨b,x,none⟩=w.cell? ⟨b,x,none⟩) (hz:∀(b:Nat) c ty z,w.heap[b]? =some (.cells c ty z)->w'.heap[b]? =w.heap[b]?) {a:AV} {v:Value} (h:lr P w D a v):lr P w' D a v:=by
 induction h with
 |int k n=>exact .int k n
 |bool b=>exact .bool b
 |str s=>exact .str s
 |bj=>exact .bj
 |iU=>exact .iU
 |jV=>exact .jV
 |j6=>exact .j6
 |jB=>exact .jB
 |err g t s a c ty h1 h2 h3 h4 h5=>exact .err g t s a c ty h1 ((hc g 0 h1).trans h2) h3 ((hz _ _ _ _ h4).trans h4) ((World.cell?_of_block (hz _ _ _ _ h4)).trans h5)
 |D6 a c h=>exact .D6 a c h
 |sl rows b o n c sz vs h1 h2 h3 h4 h5 h5' h6 _ ih=>exact .sl rows b o n c sz vs h1 h2 h3 h4 h5 h5' (fun i j hi hj=>(hc b _ h4).trans (h6 i j hi hj)) ih
 |ef cs b o vs h1 h1' h2 _ ih=>exact .ef cs b o vs h1 h1' (fun j hj=>(hc b _ h1).trans (h2 j hj)) ih
 |agg cs vs f h1 h2 h3 _ ih=>exact .agg cs vs f h1 h2 h3 ih
 |fn f dG vs g h1 h2 h3 _ ih=>exact .fn f dG vs g h1 h2 h3 ih
theorem du.Hf (hc:∀b x,D b->w'.cell? ⟨b,x,none⟩=w.cell? ⟨b,x,none⟩) (hz:∀(b:Nat) c ty z,w.heap[b]? =some (.cells c ty z)->w'.heap[b]? =w.heap[b]?) {a:AV} {v:Value} (h:du P w D ι a v):du P w' D ι a v:=by
 induction h with
 |eX a v h=>exact .eX a v (h.Hf hc hz)
 |map id m B h1 h2=>exact .map id m B h1 h2
 |tX id c B h1 h2=>exact .tX id c B h1 h2
 |own id off len o cap B h1 h2 h3 h4 h5 h6=>exact .own id off len o cap B h1 h2 h3 h4 h5 h6
 |ptr id i off B h1 h2=>exact .ptr id i off B h1 h2
 |agg cs vs f h1 h2 h3 _ ih=>exact .agg cs vs f h1 h2 h3 ih
 |fP cs vs f h1 h2 _ ih=>exact .fP cs vs f h1 h2 ih
 |fn f dG vs g h1 h2 h3 _ ih=>exact .fn f dG vs g h1 h2 h3 ih
 |xh f dG vs g h1 h2 h3 _ ih=>exact .xh f dG vs g h1 h2 h3 ih
def oE (w:World) (rr:Nat):Prop:=∃m s seen c,w.heap[rr]? =some (.mapIter m s seen c)
theorem oE.cell {rr:Nat} (h:oE w rr) (x:Nat):w.cell? ⟨rr,x,none⟩=none:=by
 obtain⟨m,s,seen,c,h⟩:=h
 simp[World.cell?,h]
theorem iM.NK {B:vz} {r:Row} (R:iM P w D ι B r):¬oE w B.b:=by
 rintro⟨m,s,seen,c,h⟩
 cases hk:B.k with
 |none=>obtain⟨c',T,h3,_⟩:=(R.row hk).vd;rw[h]at h3;cases h3
 |some k=>
  cases k with
  |map m=>obtain⟨_,es,c',h3,_⟩:=R.map m hk;rw[h]at h3;cases h3
  |chan c=>obtain⟨_,buf,s',q,h3,_⟩:=R.chan c hk;rw[h]at h3;cases h3
theorem BI {rr:Nat} (h:oE w rr) (h':oE w' rr) (ho:∀b,b≠rr->w'.heap[b]? =w.heap[b]?):(∀{a v},du P w D ι a v->du P w' D ι a v):=fun hr=>hr.Hf (fun b x _=>by
 by_cases hb:b=rr
 ·subst hb;rw[h.cell,h'.cell]
 ·exact World.cell?_of_block (ho b hb)) (fun b c ty z hb=>ho b fun e=>by
  subst e;obtain⟨m,s,seen,cc,h⟩:=h;rw[h]at hb;cases hb)
theorem ig.iter {rr:Nat} (S:ig P hs D ι g w) (h:oE w rr) (h':oE w' rr) (ho:∀b,b≠rr->w'.heap[b]? =w.heap[b]?) (hz:w'.heap.size=w.heap.size):ig P hs D ι g w':=
 ⟨by rw[hz];exact S.lo,fun b hb=>by rw[hz];exact S.dead b hb,fun id r hg=>by
  obtain⟨B,hB,R,k1,k2⟩:=S.row id r hg
  exact⟨B,hB,R.frame (ho _ fun e=>R.NK (e▸h)) fun a v hr=>BI h h' ho hr,k1,k2⟩,S.inj⟩
theorem ox {ops:Array Oper} {Q:Exit->Act->World->Prop} {a:Act} {o:Oper} {l:List Oper} {v:Value} (hg:o.guard=none) (gz:(execOp a.eval o).run P w=.ok (.value v) w') (h:wpList P ops Q l (a.put o.dst v) w'):wpList P ops Q (o::l) a w:=by
 unfold wpList
 rw[if_pos (by simp[Region.wanted,hg])]
 exact .inl (by unfold Oper.wp;rw[gz];exact h)
theorem N0 {x y:AV} {u v:Value} (h1:du P w D ι x u) (h2:du P w D ι y v):du P w D ι (.fP [x,y]) (.tuple #[u,v]):=
 .fP _ _ (fun j=>if j=0 then u else v) rfl (fun j hj=>by match j,hj with|0,_=>rfl|1,_=>rfl|j+2,hj=>simp at hj;omega) (fun j a ha=>by match j,ha with|0,ha=>simp at ha;subst ha;exact h1|1,ha=>simp at ha;subst ha;exact h2|j+2,ha=>simp at ha)
theorem N1 {x y z:AV} {u v t:Value} (h1:du P w D ι x u) (h2:du P w D ι y v) (h3:du P w D ι z t):du P w D ι (.fP [x,y,z]) (.tuple #[u,v,t]):=
 .fP _ _ (fun j=>if j=0 then u else if j=1 then v else t) rfl (fun j hj=>by match j,hj with|0,_=>rfl|1,_=>rfl|2,_=>rfl|j+3,hj=>simp at hj;omega) (fun j a ha=>by match j,ha with|0,ha=>simp at ha;subst ha;exact h1|1,ha=>simp at ha;subst ha;exact h2|2,ha=>simp at ha;subst ha;exact h3|j+3,ha=>simp at ha)
theorem NZ {x:AV} {u:Value} (h1:du P w D ι x u):du P w D ι (.fP [x]) (.tuple #[u]):=
 .fP _ _ (fun _=>u) rfl (fun j hj=>by match j,hj with|0,_=>rfl|j+1,hj=>simp at hj) (fun j a ha=>by match j,ha with|0,ha=>simp at ha;subst ha;exact h1|j+1,ha=>simp at ha)
structure Rm (P:Program) (w:World) (D:Nat->Prop) (ι:Names) (m:MK) (L:List MapEntry) (left:List (List AV)):Prop where
 len:left.length=L.length
 at_:∀(i:Nat) (cs:List AV),left[i]? =some cs->∃(e:MapEntry) (kv vv:AV),L[i]? =some e/\part m.ka m.ks cs=some kv/\cs[m.ks]? =some vv/\du P w D ι kv e.key/\du P w D ι vv e.val
theorem Rm.rep {m:MK} {L:List MapEntry} {left:List (List AV)} (h:Rm P w D ι m L left) (hr:∀{a v},du P w D ι a v->du P w' D' ι' a v):Rm P w' D' ι' m L left:=⟨h.len,fun i cs hi=>by
 obtain⟨e,kv,vv,h1,h2,h3,h4,h5⟩:=h.at_ i cs hi
 exact⟨e,kv,vv,h1,h2,h3,hr h4,hr h5⟩⟩
theorem oK {α β:Type} {l:List α} {k:List β} {i j:Nat} {x:α} (hl:l.length=k.length) (h:(l.eraseIdx i)[j]? =some x):∃q:Nat,l[q]? =some x/\(k.eraseIdx i)[j]? =k[q]? :=by
 rw[List.getElem?_eraseIdx]at h
 split at h
 ·rename_i hj;exact⟨j,h,by rw[List.getElem?_eraseIdx,if_pos hj]⟩
 ·rename_i hj;exact⟨j+1,h,by rw[List.getElem?_eraseIdx,if_neg hj]⟩
theorem Rm.erase {m:MK} {L:List MapEntry} {left:List (List AV)} (h:Rm P w D ι m L left) {i:Nat} (hi:i<L.length):Rm P w D ι m (L.eraseIdx i) (left.eraseIdx i):=⟨by
 rw[List.length_eraseIdx,List.length_eraseIdx,h.len],fun j cs hj=>by
 obtain⟨q,hq,he⟩:=oK h.len hj
 obtain⟨e,kv,vv,h1,h2⟩:=h.at_ q cs hq
 exact⟨e,kv,vv,he.trans h1,h2⟩⟩
theorem pq:∀{l:List MapEntry} {i:Nat} {e:MapEntry},(l.map (·.born)).Nodup->l[i]? =some e->l.filter (fun x=>x.born !=e.born)=l.eraseIdx i
 |x::l,0,e,hn,h=>by
  simp at h;subst h
  obtain⟨h1,h2⟩:=List.nodup_cons.1 (show(x.born::l.map (·.born)).Nodup from hn)
  rw[List.filter_cons,if_neg (by simp),List.eraseIdx_cons_zero]
  refine List.filter_eq_self.2 fun y hy=>?_
  have:y.born≠x.born:=fun hc=>h1 (by rw[<-hc];exact List.mem_map_of_mem hy)
  simpa using this
 |x::l,i+1,e,hn,h=>by
  obtain⟨h1,h2⟩:=List.nodup_cons.1 (show(x.born::l.map (·.born)).Nodup from hn)
  simp only[List.getElem?_cons_succ]at h
  have hx:x.born≠e.born:=fun hc=>h1 (by rw[hc];exact List.mem_map_of_mem (List.mem_of_getElem? h))
  rw[List.filter_cons,if_pos (by simpa using hx),List.eraseIdx_cons_succ,pq h2 h]
theorem zo {es:Array MapEntry} {clock:Nat} {seen:Array Nat} {i:Nat} {e:MapEntry} (hs:Iy es clock) (h:(leftOf es seen).toList[i]? =some e):(leftOf es (seen.push e.born)).toList=(leftOf es seen).toList.eraseIdx i:=by
 have hn:((leftOf es seen).toList.map (·.born)).Nodup:=by
  unfold leftOf
  rw[Array.toList_filter]
  exact((List.filter_sublist (p:=fun e=> !seen.contains e.born) (l:=es.toList)).map MapEntry.born).nodup hs.2
 rw[<-pq hn h]
 unfold leftOf
 rw[Array.toList_filter,Array.toList_filter,List.filter_filter]
 refine List.filter_congr fun x _=>?_
 rw[contains_push]
 cases seen.contains x.born<;>cases hb:(x.born==e.born)<;>simp_all
theorem eval_put {a:Act} {d:Nat} {v:Value} (h:d<a.tmps.size):(a.put (some d) v).eval (.tmp d)=v:=by
 simp[Act.put,Act.eval,h]
def N6 (ix ie b b1 ok:Nat) (HQ KW HP:Oper) (uF:List Oper) (pn:Code):Code:=
 .seq (.region ix #[HQ,KW] false) (.seq (.cond (.tmp ok) .skip (.exit b)) (.block b1 (.seq (.region ie (HP::uF).toArray false) pn)))
structure L1 (P:Program) (md:List (Nat×Nat)) (nt fid s0 it nx ok en:Nat) (HQ KW HP:Oper) (uF:List Oper) (pn:Code) (vE:List bD) (u7:VC):Prop where
 h1:HQ.op=.next (.tmp it) false
 h2:HQ.dst=some nx
 h3:HQ.guard=none
 h4:KW.op=.extract (.tmp nx) 0
 h5:KW.dst=some ok
 h6:KW.guard=none
 h7:HP.op=.entry (.tmp it)
 h8:HP.dst=some en
 h9:HP.guard=none
 V7:nx<nt
 Zn:ok<nt
 lt3:en<nt
 ne1:it≠nx
 ne2:it≠ok
 hE:allM (mm P (HP::uF).toArray nt s0 false false #[] []) uF 1=some vE
 hR:js P md nt fid pn=some u7
theorem HY (hm:P.follows .mixedOrders=true) {md:List (Nat×Nat)} {nt fid s0 ix ie b b1 it nx ok en:Nat} {m:MK} {id:Id} {HQ KW HP:Oper} {uF:List Oper} {pn:Code} {vE:List bD} {u7:VC}
  (O:L1 P md nt fid s0 it nx ok en HQ KW HP uF pn vE u7) {rr bm:Nat} {es:Array MapEntry} {clock:Nat} (Fi:Iy es clock) {ds:List Deferred} {n0:Nat} {D0:Nat->Prop} {ι0:Names} {w0:World} {Q:Ex->Env->ax->Prop} {Q':Exit->Act->World->Prop}
  (hQ:wQ P hs nt ds Q n0 D0 ι0 w0 Q') (hD0:¬D0 rr) (hrr:hs<=rr) (iI:bm≠rr):
  ∀(n:Nat) (left:List (List AV)) (env:Env) (σ:ax) (a:Act) (w:World) (D:Nat->Prop) (ι:Names) (seen:Array Nat),
   F6 m it nx ok en id (ea (Sound P) (.seq (.fV false vE) u7)) b b1 Q n left env σ->St P hs nt D ι env σ a w->a.defers=ds->n0<=σ.next->Step hs D0 ι0 w0 D ι w->
   (∃sz C,ι id=some ⟨rr,sz,C,none⟩)->D rr->D bm->w.heap[rr]? =some (.mapIter (some bm) clock seen clock)->w.heap[bm]? =some (.map es clock)->left.length=n->Rm P w D ι m (leftOf es seen).toList left->
   rh P (N6 ix ie b b1 ok HQ KW HP uF pn) (Exit.inBlock b Q') (n+1) a w:=by
 intro n
 induction n with
 |zero=>
  intro left env σ a w D ι seen hv ed hd LK T hid hDr Z7 hr hb hlen hL
  obtain⟨LI,hq⟩:=hv
  have ha:a.tmps.getD it undef=.pointer (some ⟨rr,0,none⟩):=by
   have:=ed.env it
   rw[LI]at this
   obtain⟨B,e,hB,_⟩:=jc this
   obtain⟨sz,C,hid⟩:=hid
   rw[hid]at hB;injection hB with hB;subst hB
   simpa using e
  have YM:a.eval (.tmp it)=.pointer (some ⟨rr,0,none⟩):=ha
  rcases run_next_at (P:=P) w HQ.type rr bm clock clock seen es clock hr hb Fi.1 (Nat.le_refl _)with⟨_,gz⟩|⟨e,he,_⟩
  rotate_left
  ·have h0:(leftOf es seen).toList=[]:=List.eq_nil_of_length_eq_zero (by rw[<-hL.len,hlen])
   rw[h0]at he;simp at he
  have Ay:nx<a.tmps.size:=by rw[ed.size];exact O.V7
  have E2:=jn (jn ed.env (NZ (.eX _ _ (.bool false))) (dst:=some nx) (fun d h=>by cases h;exact O.V7) ed.size) (.eX _ _ (.bool false)) (dst:=some ok) (fun d h=>by cases h;exact O.Zn) (by rw[fI];exact ed.size)
  show Bc P (.seq _ _) _ a w
  refine nk (lg (wp_region_list ?_))
  refine ox (v:=.tuple #[.bool false]) (w':=w) O.h3 (by simp[execOp,O.h1,YM,gz,Result.andThen]) ?_
  refine ox (v:=.bool false) (w':=w) O.h6 (by rw[O.h2];simp[execOp,O.h4,eval_put Ay,Instr.extract]) ?_
  rw[O.h2,O.h5]
  refine nk (zD (t:=false) (eval_put (by rw[fI,ed.size];exact O.Zn)) (lg (wp_exit ?_)))
  show Exit.inBlock b Q' (.exit b) _ _
  simp only[Exit.inBlock,if_true]
  exact hQ .normal _ ⟨σ.get,σ.next+1⟩ _ w D ι hq T ⟨ed.wH,ed.used.next,E2,by rw[fI,fI];exact ed.size⟩ (by rw[put_defers,put_defers];exact hd) (Nat.le_succ_of_le LK)
 |succ n ih=>
  intro left env σ a w D ι seen hv ed hd LK T hid hDr Z7 hr hb hlen hL
  obtain⟨LI,hq⟩:=hv
  have ha:a.tmps.getD it undef=.pointer (some ⟨rr,0,none⟩):=by
   have:=ed.env it
   rw[LI]at this
   obtain⟨B,e,hB,_⟩:=jc this
   obtain⟨sz,C,hid⟩:=hid
   rw[hid]at hB;injection hB with hB;subst hB
   simpa using e
  have YM:a.eval (.tmp it)=.pointer (some ⟨rr,0,none⟩):=ha
  rcases run_next_at (P:=P) w HQ.type rr bm clock clock seen es clock hr hb Fi.1 (Nat.le_refl _)with⟨h0,_⟩|⟨e,he,w1,zb,gz⟩
  ·have:=hL.len
   rw[hlen,Array.length_toList]at this;omega
  obtain⟨i,hi,O4⟩:=List.getElem_of_mem he
  have Xj:(leftOf es seen).toList[i]? =some e:=by rw[List.getElem?_eq_getElem hi,O4]
  have nR:i<left.length:=by rw[hL.len];exact hi
  obtain⟨e',kv,vv,q1,q2,q3,q4,q5⟩:=hL.at_ i left[i] (List.getElem?_eq_getElem nR)
  rw[Xj]at q1;injection q1 with q1;subst q1
  replace hq:=hq i left[i] kv vv (List.getElem?_eq_getElem nR) q2 q3
  have TJ:w1.heap[rr]? =some (.mapIter (some bm) clock seen clock):=by rcases zb with rfl|rfl<;>exact hr
  have gF:=MapKept.heap_set (o':=.mapIter (some bm) clock (seen.push e.born) clock) TJ
  obtain⟨w2,oP⟩:∃w2,ChangeMaps.setBlock w1 rr (.mapIter (some bm) clock (seen.push e.born) clock)=w2:=⟨_,rfl⟩
  have ho:∀k,k≠rr->w2.heap[k]? =w.heap[k]? :=fun k hk=>by
   rw[<-oP]
   refine(gF.2 k hk).trans ?_
   rcases zb with rfl|rfl<;>rfl
  have hz:w2.heap.size=w.heap.size:=by
   rw[<-oP]
   rcases zb with rfl|rfl<;>simp[ChangeMaps.setBlock]
  have Gx:w2.heap[rr]? =some (.mapIter (some bm) clock (seen.push e.born) clock):=by rw[<-oP];exact gF.1
  have vk:w2.os=w.os/\w2.tape=w.tape/\w2.output=w.output:=by
   rw[<-oP]
   rcases zb with rfl|rfl<;>exact⟨rfl,rfl,rfl⟩
  rw[oP]at gz
  clear oP gF
  have I1:oE w rr:=⟨_,_,_,_,hr⟩
  have I2:oE w2 rr:=⟨_,_,_,_,Gx⟩
  have rt:∀{a v},du P w D ι a v->du P w2 D ι a v:=BI I1 I2 ho
  have S2:=ed.wH.iter I1 I2 ho hz
  have T2:Step hs D0 ι0 w0 D ι w2:=⟨⟨vk.1.trans T.below.os,vk.2.1.trans T.below.tape,vk.2.2.trans T.below.output,by rw[hz];exact T.below.size,fun k hk=>(ho k ae).trans (T.below.block k hk)⟩,fun k hk=>(ho k (fun hc=>hD0 (hc▸hk))).trans (T.Fy k hk),T.dead,T.names,T.new⟩
  have Hq:w2.heap[bm]? =some (.map es clock):=(ho bm iI).trans hb
  have Ay:nx<a.tmps.size:=by rw[ed.size];exact O.V7
  have E1:dc P w2 D ι env a:=fun t=>rt (ed.env t)
  have E2:=jn (jn E1 (N1 (.eX _ _ (.bool true)) (rt q4) (rt q5)) (dst:=some nx) (fun d h=>by cases h;exact O.V7) ed.size) (.eX _ _ (.bool true)) (dst:=some ok) (fun d h=>by cases h;exact O.Zn) (by rw[fI];exact ed.size)
  have E3:=jn E2 (N0 (rt q4) (rt q5)) (dst:=some en) (fun d h=>by cases h;exact O.lt3) (by rw[fI,fI];exact ed.size)
  have RE:=run_entry_at (P:=P) w2 rr bm clock seen es clock e Gx Hq (mem_left he).1 Fi.2
  show Bc P (.seq _ _) _ a w
  refine nk (lg (wp_region_list ?_))
  refine ox (v:=.tuple #[.bool true,e.key,e.val]) (w':=w2) O.h3 (by simp[execOp,O.h1,YM,gz,Result.andThen]) ?_
  refine ox (v:=.bool true) (w':=w2) O.h6 (by rw[O.h2];simp[execOp,O.h4,eval_put Ay,Instr.extract]) ?_
  rw[O.h2,O.h5]
  refine nk (zD (t:=true) (eval_put (by rw[fI,ed.size];exact O.Zn)) (lg (wp_skip ?_)))
  refine wz (nk (lg (wp_region_list ?_)))
  show wpList P _ _ (HP::uF) _ _
  have ha3:(((a.put (some nx) (.tuple #[.bool true,e.key,e.val])).put (some ok) (.bool true)).eval (.tmp it))=.pointer (some ⟨rr,0,none⟩):=by
   have n1:=O.ne1
   have n2:=O.ne2
   rw[<-YM]
   simp[Act.put,Act.eval,Array.getD_eq_getD_getElem?,Array.getElem?_setIfInBounds,Ne.symm n1,Ne.symm n2]
  refine ox (v:=.tuple #[e.key,e.val]) (w':=w2) O.h9 (by simp[execOp,O.h7,ha3,RE,Result.andThen]) ?_
  rw[O.h8]
  refine BW uF vE 1 _ ⟨σ.get,σ.next+1⟩ _ w2 D ι (fun _=>False) O.hE hq S2 ed.used.next (fun _ h=>h.elim) E3 (by rw[fI,fI,fI];exact ed.size) fun ZW σ3 a3 w3 D3 ι3 hk T3 St3 hd3 hle3=>?_
  refine sS hm pn u7 O.hR _ ZW σ3 a3 w3 D3 ι3 _ hk St3 fun ex Mt σ4 a4 w4 D4 ι4 M7 T4 ZG VQ hle4=>?_
  have hdd:a4.defers=ds:=by rw[VQ,hd3,put_defers,put_defers,put_defers];exact hd
  have hnn:n0<=σ4.next:=Nat.le_trans LK (Nat.le_trans (Nat.le_succ _) (Nat.le_trans hle3 hle4))
  have Su:=T3.trans T4
  have TT:=T2.trans Su
  have XX:F6 m it nx ok en id (ea (Sound P) (.seq (.fV false vE) u7)) b b1 Q n (left.eraseIdx i) Mt σ4->rh P (N6 ix ie b b1 ok HQ KW HP uF pn) (Exit.inBlock b Q') (n+1) a4 w4:=fun hq5=>by
   refine ih (left.eraseIdx i) Mt σ4 a4 w4 D4 ι4 (seen.push e.born) hq5 ZG hdd hnn TT ?_ (Su.dead _ hDr) (Su.dead _ Z7) ((Su.Fy _ hDr).trans Gx) ((Su.Fy _ Z7).trans Hq) ?_ ?_
   ·obtain⟨sz,C,hid⟩:=hid;exact⟨sz,C,Su.names _ _ hid⟩
   ·rw[List.length_eraseIdx,if_pos nR,hlen];rfl
   ·rw[zo Fi Xj]
    exact(hL.erase hi).rep fun hr=>Su.rep (rt hr)
  have out:∀ex,ex≠.normal->Q ex Mt σ4->Q' (YA ex) a4 w4:=fun ex _ h=>hQ ex Mt σ4 a4 w4 D4 ι4 h TT ZG hdd hnn
  cases ex with
  |normal=>exact XX M7
  |ret=>exact out .ret (by simp) M7
  |exit lG=>
   simp only[bd]at M7
   simp only[YA,Exit.inBlock]
   by_cases h1:lG=b1
   ·rw[if_pos h1]at M7 ⊢
    exact XX M7
   ·rw[if_neg h1]at M7 ⊢
    simp only[de,bd]at M7
    show Exit.inBlock b Q' (.exit lG) a4 w4
    simp only[Exit.inBlock]
    by_cases h2:lG=b
    ·rw[if_pos h2]at M7 ⊢
     exact hQ .normal Mt σ4 a4 w4 D4 ι4 M7 TT ZG hdd hnn
    ·rw[if_neg h2]at M7 ⊢
     exact out (.exit lG) (by simp) M7
def CS (P:Program) (nt:Nat) (c:Code) (W:(Ex->Env->ax->Prop)->Env->ax->Prop):Prop:=
 ∀(hs:Nat) (Q:Ex->Env->ax->Prop) (env:Env) (σ:ax) (a:Act) (w:World) (D:Nat->Prop) (ι:Names) (Q':Exit->Act->World->Prop),W Q env σ->St P hs nt D ι env σ a w->wQ P hs nt a.defers Q σ.next D ι w Q'->Bc P c Q' a w
theorem CS.code (hm:P.follows .mixedOrders=true) {md:List (Nat×Nat)} {nt fid:Nat} {c:Code} {vc:VC} (h:js P md nt fid c=some vc):CS P nt c (ea (Sound P) vc):=
 fun _ Q env σ a w D ι Q' hv ed hQ=>sS hm c vc h Q env σ a w D ι Q' hv ed hQ
theorem CS.seq {nt:Nat} {x y:Code} {V W:(Ex->Env->ax->Prop)->Env->ax->Prop} (h:CS P nt x V) (k:CS P nt y W):CS P nt (.seq x y) (fun Q=>V (de (W Q) Q)):=fun hs Q env σ a w D ι Q' hv ed hQ=>by
 refine nk (h hs _ env σ a w D ι _ hv ed fun ex jG σ1 a1 w1 D1 ι1 hq T kI hd hle=>?_)
 cases ex with
 |normal=>exact k hs Q jG σ1 a1 w1 D1 ι1 Q' hq kI (by rw[hd];exact hQ.later T hle)
 |exit id=>exact hQ (.exit id) jG σ1 a1 w1 D1 ι1 hq T kI hd hle
 |ret=>exact hQ .ret jG σ1 a1 w1 D1 ι1 hq T kI hd hle
theorem CS.rng (hm:P.follows .mixedOrders=true) {md:List (Nat×Nat)} {nt fid s0 sA site ia ix ie b b1 it nx ok en:Nat} {m:MK} {HQ KW HP HT:Oper} {NU uF:List Oper} {pn:Code} {vA vE:List bD} {u7:VC} {t k e:TypeId} {tm:Operand} {tm':O}
  (O:L1 P md nt fid s0 it nx ok en HQ KW HP uF pn vE u7) (h1:HT.op=.range t tm) (h2:HT.dst=some it) (h3:HT.guard=none) (eG:it<nt) (ht:P.underlying t=some (.map k e)) (XB:cO P tm=some tm') (hA:allM (mm P (NU++[HT]).toArray nt sA false false #[] []) NU 0=some vA):
  CS P nt (.seq (.region ia (NU++[HT]).toArray false) (.block b (.loop (N6 ix ie b b1 ok HQ KW HP uF pn))))
   (fun Q=>wpOps (Sound P) false vA (K7 m tm' site it nx ok en (ea (Sound P) (.seq (.fV false vE) u7)) b b1 Q)):=fun hs Q env σ a w D ι Q' hv ed hQ=>by
 refine nk (lg (wp_region_list ?_))
 show wpList P _ _ (NU++[HT]) a w
 refine zF [HT] NU vA 0 env σ a w D ι (fun _=>False) hA hv ed.wH ed.used (fun _ h=>h.elim) ed.env ed.size fun jG σ1 a1 w1 D1 ι1 hk T tO LF Km=>?_
 obtain⟨id,r,hid,hg,hw,hr⟩:=hk
 have jd:=ec tO.env XB
 rw[hid]at jd
 obtain⟨B,hv,hB,hk⟩:=Du jd
 obtain⟨B',eA,R,lW,sD⟩:=tO.wH.row id r hg
 rw[hB]at eA;injection eA with eA;subst eA
 obtain⟨hrsz,es,clock,hb,ew,⟨hlen,Fi⟩,hM⟩:=R.map m hk
 have LB:=R.lt
 have gz:=run_range_map (P:=P) w1 t k e B.b es clock ht hb
 refine ox (v:=.pointer (some ⟨w1.heap.size,0,none⟩)) (w':=w1.alloc (.mapIter (some B.b) clock #[] clock)) h3 (by simp[execOp,h1,hv,gz,Result.andThen]) ?_
 rw[h2]
 obtain⟨w2,oP⟩:∃w2,w1.alloc (.mapIter (some B.b) clock #[] clock)=w2:=⟨_,rfl⟩
 have hblk:∀b,b<w1.heap.size->w2.heap[b]? =w1.heap[b]? :=fun b hb=>by rw[<-oP];exact Below.heap_alloc _ _ _ hb
 have lS:w2.heap[w1.heap.size]? =some (.mapIter (some B.b) clock #[] clock):=by rw[<-oP];exact heap_alloc_new _ _
 have hz:w2.heap.size=w1.heap.size+1:=by rw[<-oP];simp
 have vk:w2.os=w1.os/\w2.tape=w1.tape/\w2.output=w1.output:=by rw[<-oP];exact⟨rfl,rfl,rfl⟩
 rw[oP]
 clear oP gz
 let D2:Nat->Prop:=fun x=>D1 x∨x=B.b∨x=w1.heap.size
 let ι2:Names:=lJ ι1 ⟨site,σ1.next⟩ ⟨w1.heap.size,1,0,none⟩
 have iO:ι1 ⟨site,σ1.next⟩=none:=fresh tO.used (fun h=>h)
 have Y7:∀{a v},du P w1 D1 ι1 a v->du P w2 D2 ι2 a v:=fun h=>h.frame (fun b hd=>hblk b (tO.wH.dead b hd)) (fun _ h=>.inl h) (fJ iO)
 have DZ:∀{j q C},σ1.get j=some q->ι2 j=some C->ι1 j=some C:=fun {j q C} hj hC=>by
  obtain⟨C',xC,_⟩:=tO.wH.row j q hj
  have:=fJ (B:=⟨w1.heap.size,1,0,none⟩) iO j C' xC
  have e:=this.symm.trans hC
  injection e with e;rw[<-e];exact xC
 have lt:∀{j q C},σ1.get j=some q->ι1 j=some C->C.b<w1.heap.size:=fun {j q C} hj hC=>by
  obtain⟨C',xC,R',_⟩:=tO.wH.row j q hj
  rw[hC]at xC;injection xC with xC;subst xC
  exact R'.lt
 have S8:∀{j q},bI σ1.get id {r with w:=false} j=some q->∃q0,σ1.get j=some q0/\(q.w=true->q=q0/\j≠id)/\(j=id->q={r with w:=false}/\q0=r)/\(j≠id->q=q0):=fun {j q} h=>by
  unfold bI at h
  split at h
  ·rename_i e
   injection h with h;subst h
   exact⟨r,e▸hg,fun h=>(by cases h),fun _=>⟨rfl,rfl⟩,fun hc=>absurd e hc⟩
  ·rename_i e
   exact⟨q,h,fun _=>⟨rfl,e⟩,fun hc=>absurd hc e,fun _=>rfl⟩
 have S2:ig P hs D2 ι2 (bI σ1.get id {r with w:=false}) w2:=by
  refine⟨by rw[hz];exact Nat.le_succ_of_le tO.wH.lo,fun b hb=>?_,fun j q h=>?_,fun j j' q q' C C' h h' M8 hC xC he=>?_⟩
  ·rw[hz]
   rcases hb with hb|rfl|rfl
   ·exact Nat.lt_succ_of_lt (tO.wH.dead b hb)
   ·exact Nat.lt_succ_of_lt LB
   ·exact Nat.lt_succ_self _
  ·obtain⟨q0,RM,M8,hid',iI⟩:=S8 h
   obtain⟨C,hC,RC,k1,k2⟩:=tO.wH.row j q0 RM
   have hCl:=lt RM hC
   refine⟨C,fJ iO j C hC,?_,fun V3=>k1 ((M8 V3).1▸V3),fun V3 hD=>?_⟩
   ·have RF:iM P w2 D2 ι2 C q0:=RC.frame (hblk _ hCl) fun a v h=>Y7 h
    by_cases hj:j=id
    ·obtain⟨e1,e2⟩:=hid' hj
     rw[e1,<-e2];exact RF.flag false
    ·rw[iI hj];exact RF
   ·obtain⟨e1,e2⟩:=M8 V3
    rcases hD with hD|hD|hD
    ·exact k2 (e1▸V3) hD
    ·exact e2 (tO.wH.inj j id q0 r C B RM hg (e1▸V3) hC hB hD)
    ·omega
  ·obtain⟨q0,RM,hqw0,_⟩:=S8 h
   obtain⟨q0',Xx,_⟩:=S8 h'
   exact tO.wH.inj j j' q0 q0' C C' RM Xx ((hqw0 M8).1▸M8) (DZ RM hC) (DZ Xx xC) he
 have T2:Step hs D1 ι1 w1 D2 ι2 w2:=⟨⟨vk.1,vk.2.1,vk.2.2,ae,fun k hk=>hblk k (Nat.lt_of_lt_of_le hk tO.wH.lo)⟩,fun b hb=>hblk b (tO.wH.dead b hb),fun _ h=>.inl h,fJ iO,fun b hb=>by
  rcases hb with hb|rfl|rfl
  ·exact .inl hb
  ·exact .inr (lW hw)
  ·exact .inr tO.wH.lo⟩
 have E2:dc P w2 D2 ι2 (upd jG (some it) (.ptr ⟨site,σ1.next⟩ 0 0)) (a1.put (some it) (.pointer (some ⟨w1.heap.size,0,none⟩))):=
  jn (fun t=>Y7 (tO.env t)) (by have:=du.ptr (P:=P) (w:=w2) (D:=D2) (ι:=ι2) ⟨site,σ1.next⟩ 0 0 ⟨w1.heap.size,1,0,none⟩ (eK _ _ _) rfl;simpa using this) (fun d h=>by cases h;exact eG) tO.size
 have L2:Rm P w2 D2 ι2 m (leftOf es #[]).toList r.rows:=by
  have he:(leftOf es #[]).toList=es.toList:=by simp[leftOf]
  rw[he]
  refine⟨by simpa using ew.symm,fun i cs hi=>?_⟩
  obtain⟨Wx,kv,vv,q1,q2,q3,q4,q5⟩:=hM i cs hi
  exact⟨Wx,kv,vv,by simpa using q1,q2,q3,Y7 q4,Y7 q5⟩
 show Bc P (.block b (.loop (N6 ix ie b b1 ok HQ KW HP uF pn))) Q' _ w2
 exact wz (FU (r.rows.length+1) (HY hm O Fi (ds:=a.defers) (n0:=σ.next) (D0:=D) (ι0:=ι) (w0:=w) hQ
  (fun hc=>by have:=ed.wH.dead _ hc;have:=T.below.size;omega) tO.wH.lo ae r.rows.length r.rows _ ⟨bI σ1.get id {r with w:=false},σ1.next+1⟩ _ w2 D2 ι2 #[] hr
  ⟨S2,tO.used.upd.next,E2,by rw[fI];exact tO.size⟩ (by rw[put_defers];exact LF) (Nat.le_succ_of_le Km) (T.trans T2) ⟨1,0,eK _ _ _⟩ (.inr (.inr rfl)) (.inr (.inl rfl)) lS ((hblk _ LB).trans hb) rfl L2))
theorem CS.fn {f:Nat} {fn:Func} {c:Code} {args:List AV} {σ:ax} {K:AV->ax->Prop} {vr:List rL} {W:(Ex->Env->ax->Prop)->Env->ax->Prop} (RG:P.funcs[f]? =some fn) (hc:fn.body=some c) (hr:fn.results.toList.mapM (G4 P)=some vr) (ha:fn.params.size+fn.nfree=args.length) (hle:fn.params.size+fn.nfree<=fn.ntmps)
  (h:CS P fn.ntmps c W) (hv:W (oe vr K) (cj args) σ):Call P f args σ K:=
 fG (yq RG hc hr ha hle fun hs w D ι a Q' ed hQ=>h hs (oe vr K) (cj args) σ a w D ι Q' hv ed hQ)
theorem u9 (hm:P.follows .mixedOrders=true) {c:VC} {Q Q':Ex->Env->ax->Prop} {env:Env} {σ:ax} (hQ:∀x e s,Q x e s->Q' x e s) (h:ea (Call P) c Q env σ):ea (Sound P) c Q' env σ:=
 lK (fun _ _ _ _ h=>iP hm h) mi c Q Q' env σ hQ h
theorem Cb {m:MK} {it nx ok en:Nat} {id:Id} {B B':(Ex->Env->ax->Prop)->Env->ax->Prop} {b b1:Nat} {Q Q':Ex->Env->ax->Prop} (hB:∀R R' e s,(∀x e s,R x e s->R' x e s)->B R e s->B' R' e s) (hQ:∀x e s,Q x e s->Q' x e s):
  ∀(n:Nat) (left:List (List AV)) (env:Env) (σ:ax),F6 m it nx ok en id B b b1 Q n left env σ->F6 m it nx ok en id B' b b1 Q' n left env σ
 |0,_,env,σ,h=>⟨h.1,hQ _ _ _ h.2⟩
 |n+1,left,env,σ,h=>⟨h.1,fun i cs kv vv h1 h2 h3=>hB _ _ _ _ (fun x e s hx=>by
  have hn:=Cb (id:=id) (m:=m) (it:=it) (nx:=nx) (ok:=ok) (en:=en) (b:=b) (b1:=b1) hB hQ n (left.eraseIdx i) e s
  cases x with
  |normal=>exact hn hx
  |ret=>exact hQ _ _ _ hx
  |exit lG=>
   simp only[bd]at hx ⊢
   split at hx
   ·rename_i h1;rw[if_pos h1];exact hn hx
   ·rename_i h1
    rw[if_neg h1]
    simp only[de,bd]at hx ⊢
    split at hx
    ·rename_i h2;rw[if_pos h2];exact hQ _ _ _ hx
    ·rename_i h2;rw[if_neg h2];exact hQ _ _ _ hx) (h.2 i cs kv vv h1 h2 h3)⟩
theorem K8 (hm:P.follows .mixedOrders=true) {m:MK} {tm:O} {site it nx ok en:Nat} {c:VC} {b b1:Nat} {Q Q':Ex->Env->ax->Prop} {env:Env} {σ:ax} (hQ:∀x e s,Q x e s->Q' x e s) (h:K7 m tm site it nx ok en (ea (Call P) c) b b1 Q env σ):K7 m tm site it nx ok en (ea (Sound P) c) b b1 Q' env σ:=by
 obtain⟨id,r,h1,h2,h3,h4⟩:=h
 exact⟨id,r,h1,h2,h3,Cb (B':=ea (Sound P) c) (fun R R' e s hR hb=>u9 hm hR hb) hQ _ _ _ _ h4⟩
theorem tD {α:Type}:∀{l:List α} {i:Nat} {x:α},l[i]? =some x->(x::l.eraseIdx i).Perm l
 |y::l,0,x,h=>by simp at h;subst h;exact List.Perm.refl _
 |y::l,i+1,x,h=>by
  simp only[List.getElem?_cons_succ]at h
  rw[List.eraseIdx_cons_succ]
  exact(List.Perm.swap _ _ _).trans ((tD h).cons _)
theorem Yg {m:MK} {tm:O} {site it nx ok en:Nat} {c:VC} {b b1:Nat} {Q:Ex->Env->ax->Prop} {env:Env} {σ:ax} {id:Id} {r:Row} (I:List (List AV)->Env->ax->Prop) (h1:dj env tm=.map id m) (h2:σ.get id=some r) (h3:r.w=true) (LI:([nx,ok,en]++Bf c).contains it=false)
  (h0:I [] (upd env (some it) (.ptr ⟨site,σ.next⟩ 0 0)) ⟨bI σ.get id {r with w:=false},σ.next+1⟩)
  (step:∀pre cs rest e s kv vv,(pre++cs::rest).Perm r.rows->I pre e s->jW ([nx,ok,en]++Bf c) (upd env (some it) (.ptr ⟨site,σ.next⟩ 0 0)) e->part m.ka m.ks cs=some kv->cs[m.ks]? =some vv->
   ea (Call P) c (bd b1 (de (I (pre++[cs])) (bd b Q))) (upd (upd (upd e (some nx) (.fP [.bool true,kv,vv])) (some ok) (.bool true)) (some en) (.fP [kv,vv])) ⟨s.get,s.next+1⟩)
  (fin:∀pre e s,pre.Perm r.rows->I pre e s->jW ([nx,ok,en]++Bf c) (upd env (some it) (.ptr ⟨site,σ.next⟩ 0 0)) e->Q .normal (upd (upd e (some nx) (.fP [.bool false])) (some ok) (.bool false)) ⟨s.get,s.next+1⟩):
  K7 m tm site it nx ok en (ea (Call P) c) b b1 Q env σ:=by
 refine⟨id,r,h1,h2,h3,?_⟩
 have WZ:∀e,jW ([nx,ok,en]++Bf c) (upd env (some it) (.ptr ⟨site,σ.next⟩ 0 0)) e->e it=.ptr ⟨site,σ.next⟩ 0 0:=fun e h=>by
  rw[h it LI];simp[upd]
 have key:∀n left pre e s,(pre++left).Perm r.rows->left.length=n->I pre e s->jW ([nx,ok,en]++Bf c) (upd env (some it) (.ptr ⟨site,σ.next⟩ 0 0)) e->F6 m it nx ok en ⟨site,σ.next⟩ (ea (Call P) c) b b1 Q n left e s:=by
  intro n
  induction n with
  |zero=>
   intro left pre e s hp hl hI hK
   have:left=[]:=List.eq_nil_of_length_eq_zero hl
   subst this
   rw[List.append_nil]at hp
   exact⟨WZ e hK,fin pre e s hp hI hK⟩
  |succ n ih=>
   intro left pre e s hp hl hI hK
   refine⟨WZ e hK,fun i cs kv vv hi hk hv=>?_⟩
   have nR:=(List.getElem?_eq_some_iff.1 hi).1
   have sE:(cs::left.eraseIdx i).Perm left:=by
    exact tD hi
   have RL:(pre++cs::left.eraseIdx i).Perm r.rows:=(sE.append_left pre).trans hp
   have VP:jW ([nx,ok,en]++Bf c) (upd env (some it) (.ptr ⟨site,σ.next⟩ 0 0)) (upd (upd (upd e (some nx) (.fP [.bool true,kv,vv])) (some ok) (.bool true)) (some en) (.fP [kv,vv])):=
    ((hK.upd (fun t h=>by cases h;simp)).upd (fun t h=>by cases h;simp)).upd (fun t h=>by cases h;simp)
   refine lK (fun _ _ _ _ h=>h) ay c _ _ _ _ (fun x e' s' hx=>?_) (Ci c _ _ _ (fun t ht=>List.mem_append_right _ ht) VP (step pre cs (left.eraseIdx i) e s kv vv RL hI hK hk hv))
   obtain⟨hx,Hv⟩:=hx
   have XX:I (pre++[cs]) e' s'->F6 m it nx ok en ⟨site,σ.next⟩ (ea (Call P) c) b b1 Q n (left.eraseIdx i) e' s':=fun hI'=>
    ih (left.eraseIdx i) (pre++[cs]) e' s' (by rw[List.append_assoc];exact RL) (by rw[List.length_eraseIdx,if_pos nR];omega) hI' Hv
   cases x with
   |normal=>exact XX hx
   |ret=>exact hx
   |exit lG=>
    simp only[bd]at hx ⊢
    split at hx
    ·rename_i h1;rw[if_pos h1];exact XX hx
    ·rename_i h1;rw[if_neg h1];exact hx
 exact key _ r.rows [] _ _ (List.Perm.refl _) rfl h0 (jW.refl _ _)
end Go.Proofs.YtainmfbpilopaaaGreatDoor.V

namespace Go.Proofs.YtainmfbpilopaaaGreatDoor.V
open Go.RowKit
def Sm:Code->Code
 | .seq a _=>a
 |c=>c
def LO:Code->Code
 | .seq _ b=>b
 |c=>c
def Zt:Code->Code
 | .block _ c=>c
 |c=>c
def zsLp:Code->Code
 | .loop c=>c
 |c=>c
def Yt:Code->List Oper
 | .region _ o _=>o.toList
 |_=>[]
def rg2 (k:Code):Code:=Sm (Sm (LO (LO k)))
def rgBl (k:Code):Code:=LO (Sm (LO (LO k)))
def rgL (k:Code):Code:=zsLp (Zt (rgBl k))
def Uq (k:Code):Code:=LO (LO (rgL k))
def U4:Oper:={dst:=none,op:=.nilCheck (.tmp 0),type:=0,pos:= "",after:= #[],guard:=none}
def rgP (k:Code):List Oper:=(Yt (rg2 k)).dropLast
def rgO (k:Code):Oper:=(Yt (rg2 k)).getLastD U4
def Zo (k:Code) (i:Nat):Oper:=(Yt (Sm (rgL k))).getD i U4
def X5 (k:Code):Oper:=(Yt (Sm (Zt (Uq k)))).headD U4
def X6 (k:Code):List Oper:=(Yt (Sm (Zt (Uq k)))).tail
def rgR (k:Code):Code:=LO (Zt (Uq k))
def X7 (P:Program) (v0 v1:VC) (vA:List bD) (m:MK) (tm:O) (site it nx ok en:Nat) (vE:List bD) (vR:VC) (b b1:Nat) (vT:VC) (Q:Ex->Env->ax->Prop):Env->ax->Prop:=
 ea (Sound P) v0 (de (ea (Sound P) v1 (de (wpOps (Sound P) false vA (K7 m tm site it nx ok en (ea (Sound P) (.seq (.fV false vE) vR)) b b1 (de (ea (Sound P) vT Q) Q))) Q)) Q)
def Ur (P:Program) (v0 v1:VC) (vA:List bD) (m:MK) (tm:O) (site it nx ok en:Nat) (vE:List bD) (vR:VC) (b b1:Nat) (vT:VC) (Q:Ex->Env->ax->Prop):Env->ax->Prop:=
 ea (Call P) v0 (de (ea (Call P) v1 (de (wpOps (Call P) false vA (K7 m tm site it nx ok en (ea (Call P) (.seq (.fV false vE) vR)) b b1 (de (ea (Call P) vT Q) Q))) Q)) Q)
theorem Ab {F F':Env->ax->Prop} {Q:Ex->Env->ax->Prop} (h:∀e s,F e s->F' e s):∀x e s,de F Q x e s->de F' Q x e s:=fun x e s hx=>by
 cases x with
 |normal=>exact h e s hx
 |ret=>exact hx
 |exit id=>exact hx
theorem N7 {P:Program} (hm:P.follows .mixedOrders=true) {v0 v1:VC} {vA:List bD} {m:MK} {tm:O} {site it nx ok en:Nat} {vE:List bD} {vR:VC} {b b1:Nat} {vT:VC} {Q:Ex->Env->ax->Prop} {env:Env} {σ:ax}
  (h:Ur P v0 v1 vA m tm site it nx ok en vE vR b b1 vT Q env σ):X7 P v0 v1 vA m tm site it nx ok en vE vR b b1 vT Q env σ:=
 u9 hm (Ab fun _ _ h=>u9 hm (Ab fun _ _ h=>mQ (fun _ _ _ _ h=>iP hm h) mi (fun _ _ h=>K8 hm (Ab fun _ _ h=>u9 hm (fun _ _ _ h=>h) h) h) _ _ _ h) h) h
noncomputable def Fx:Go.Code:=Tryz.f97.body.getD .skip
def Ov:VC:=(.fV false [⟨(some 2),(.new [.bj]),none,97000000,[]⟩])
def Sg:VC:=(.fV false [⟨(some 3),(.eW (.k .bj)),none,97001000,[]⟩])
def Sh:List bD:=[⟨(some 6),(.eW (.t 0)),none,97002000,[]⟩,⟨(some 7),(.LA (.t 6)),none,97002001,[]⟩,⟨(some 8),(.fa 4 (.t 7)),none,97002002,[]⟩,⟨(some 9),(.load false 1 (.t 8)),none,97002003,[]⟩]
def Ju:List bD:=[⟨(some 14),(.extract 0 (.t 13)),none,97004001,[]⟩,⟨(some 15),(.extract 1 (.t 13)),none,97004002,[]⟩,⟨(some 4),(.new [(.int .i64 0),(.int .i64 0)]),none,97004003,[]⟩,⟨none,(.store 2 (.t 4) (.t 14)),none,97004004,[]⟩,⟨(some 5),(.eW (.t 15)),none,97004005,[]⟩]
def Jv:VC:=(.fV false [⟨(some 16),(.eW (.t 3)),none,97005000,[]⟩,⟨(some 17),(.load true 2 (.t 4)),none,97005001,[]⟩,⟨(some 18),(.eW (.t 5)),none,97005002,[]⟩,⟨(some 19),(.build [(.int .i64 0),(.int .i64 0),(.int .i64 0)] [(0,(2,(.t 17))),(2,(1,(.t 18)))]),none,97005003,[]⟩,⟨(some 20),(.fW 3 1 [(.t 19)]),none,97005004,[]⟩,⟨(some 21),(.append 3 (.t 16) (.t 20)),none,97005005,[]⟩,⟨(some 3),(.eW (.t 21)),none,97005006,[]⟩])
def Jw:VC:=(.seq (.fV false [⟨(some 22),(.eW (.t 3)),none,97006000,[]⟩,⟨(some 23),(.call 167 [(.t 22)]),none,97006001,[]⟩,⟨none,(.store 1 (.t 2) (.t 23)),none,97006002,[]⟩]) .ret)
def Jz:List rL:=[(.cell true 1 2)]
def Oq:O:=(.t 9)
theorem XY:L1 Tryz.prog [] Tryz.f97.ntmps 97 97004000 10 11 12 13 (Zo Fx 0) (Zo Fx 1) (X5 Fx) (X6 Fx) (rgR Fx) Ju Jv:=⟨by kernel_rfl,by kernel_rfl,by kernel_rfl,by kernel_rfl,by kernel_rfl,by kernel_rfl,by kernel_rfl,by kernel_rfl,by kernel_rfl,by decide,by decide,by decide,by decide,by decide,by kernel_rfl,by kernel_rfl⟩
theorem Ya:Fx=.seq (Sm Fx) (.seq (Sm (LO Fx)) (.seq (.seq (.region 2 (rgP Fx++[rgO Fx]).toArray false) (.block 0 (.loop (N6 3 4 0 1 12 (Zo Fx 0) (Zo Fx 1) (X5 Fx) (X6 Fx) (rgR Fx))))) (LO (LO (LO Fx))))):=by kernel_rfl
theorem Wv (m:MK):CS Tryz.prog Tryz.f97.ntmps Fx (X7 Tryz.prog Ov Sg Sh m Oq 97002999 10 11 12 13 Ju Jv 0 1 Jw):=by
 rw[Ya]
 exact CS.seq (CS.code (md:=[]) (fid:=97) mixed (by kernel_rfl)) (CS.seq (CS.code (md:=[]) (fid:=97) mixed (by kernel_rfl)) (CS.seq (CS.rng (tm:=.tmp 9) (sA:=97002000) (t:=155) (k:=51) (e:=2) mixed XY (by kernel_rfl) (by kernel_rfl) (by kernel_rfl) (by decide) (by kernel_rfl) (by kernel_rfl) (by kernel_rfl)) (CS.code (md:=[]) (fid:=97) mixed (by kernel_rfl))))
theorem X4 {args:List AV} {σ:ax} {K:AV->ax->Prop} (ha:args.length=Tryz.f97.params.size) (m:MK) (h:Ur Tryz.prog Ov Sg Sh m Oq 97002999 10 11 12 13 Ju Jv 0 1 Jw (oe Jz K) (cj args) σ):Call Tryz.prog 97 args σ K:=
 CS.fn Tryz.func97 (by kernel_rfl) (by kernel_rfl) ha.symm (by decide) (Wv m) (N7 mixed h)
end Go.Proofs.YtainmfbpilopaaaGreatDoor.V

namespace Go.Proofs.YtainmfbpilopaaaGreatDoor.V
open Go.RowKit
attribute [local irreducible] ea wpOps fB Call
def dd (L:List ai):Nat->List ai
 |0=>[]
 |j+1=>if 0<j/\j9 L j=j9 L (j-1)then dd L j else dd L j++[j9 L j]
theorem Ca:∀{ps qs:List aa},(ps.Pairwise fun a b=>ju a.aI b.aI=true)->(qs.Pairwise fun a b=>ju a.aI b.aI=true)->(∀x,x∈ps↔x∈qs)->ps=qs
 |[],[],_,_,_=>rfl
 |[],q::qs,_,_,h=>absurd ((h q).2 (by simp)) (by simp)
 |p::ps,[],_,_,h=>absurd ((h p).1 (by simp)) (by simp)
 |p::ps,q::qs,hp,hq,h=>by
  obtain⟨p1,p2⟩:=List.pairwise_cons.1 hp
  obtain⟨q1,q2⟩:=List.pairwise_cons.1 hq
  have e:p=q:=by
   rcases List.mem_cons.1 ((h p).1 (by simp))with e|e
   ·exact e
   ·rcases List.mem_cons.1 ((h q).2 (by simp))with e'|e'
    ·exact e'.symm
    ·have:=FI (q1 p e)
     rw[p1 q e']at this;cases this
  subst e
  congr 1
  refine Ca p2 q2 fun x=>⟨fun hx=>?_,fun hx=>?_⟩
  ·rcases List.mem_cons.1 ((h x).1 (List.mem_cons_of_mem _ hx))with e|e
   ·subst e;have:=p1 x hx;rw[iD]at this;cases this
   ·exact e
  ·rcases List.mem_cons.1 ((h x).2 (List.mem_cons_of_mem _ hx))with e|e
   ·subst e;have:=q1 x hx;rw[iD]at this;cases this
   ·exact e
theorem H8 {L qs:List aa} (hR:jk L) (hp:qs.Perm L) (hs:∀i j:Nat,i<j->j<qs.length->ju (aA qs j).aI (aA qs i).aI=false):qs=L:=by
 rw[mJ]at hR
 have hd:L.Pairwise fun a b=>a.aI≠b.aI:=hR.imp fun {a b} h e=>by rw[e,iD]at h;cases h
 have hdq:qs.Pairwise fun a b=>a.aI≠b.aI:=hp.symm.pairwise hd fun {a b} h e=>h e.symm
 refine Ca ?_ hR fun x=>hp.mem_iff
 rw[List.pairwise_iff_getElem]at hdq ⊢
 intro i j hi hj BC
 have h1:=hs i j BC hj
 rw[ez hj,ez hi]at h1
 exact xW h1 fun e=>hdq i j hi hj BC e.symm
theorem G6 (ps:List aa) (h0:ps≠[]) (hlen:ps.length<=1048576) (σ:ax) (id:Id) (hv:id.bq<σ.next) (hg:σ.get id=some ⟨true,3,ps.map ab⟩):
  Call Tryz.prog 161 [.own id 0 ps.length] σ fun a σ'=>∃o:Id,a=.own o 0 ps.length/\σ'.get o=some ⟨true,3,ps.map ab⟩/\σ.next<=o.bq/\o.bq<σ'.next/\∀x:Id,x.bq<σ.next->σ'.get x=σ.get x:=by
 refine eZ fx rfl fun hl=>?_
 clear hl
 have h2:ps.length<=16777216:=ae
 have hm:(ps.map ab).length=ps.length:=by simp
 have v1:=bZ hv
 have ht:(ps.map ab).take ps.length=ps.map ab:=by rw[<-hm,List.take_length]
 have ha:(ps.map ab).all (fun c=>c.length==3&&c.all AV.cell)=true:=all_map fun x=>by simp[ab,AV.cell]
 (try((repeat(revert N;apply Pn.out));refine wk (tw @hg (tw @h2 (tw @hm (tw @v1 (tw @ht @ha))))) ?_;(repeat(apply Pn.mk;intro N hN))))
 exact eo (vs:=[.own ⟨161003002,σ.next+2⟩ 0 ps.length]) (.inl rfl) (sd @Nat.zero_add) ⟨_,rfl,sd @Nat.zero_add,aH,aH,fun x hx=>by
  have:=bZ hx
  simp only[go_sem, ↓reduceIte,Nat.reduceEqDiff,Nat.reduceAdd,Nat.reduceSub,Nat.reduceLeDiff,reduceCtorEq,this]⟩
theorem Cs (ps L:List aa) (hlen:ps.length<=1000000) (h0:ps≠[]) (hR:jk L) (hp:ps.Perm L) (σ:ax) (id:Id) (hv:id.bq<σ.next) (hg:σ.get id=some ⟨true,3,ps.map ab⟩):
  Call Tryz.prog 167 [.own id 0 ps.length] σ fun a σ'=>∃o:Id,a=.agg [.own o 0 L.length]/\σ'.get o=some ⟨true,3,L.map ab⟩/\σ.next<=o.bq/\o.bq<σ'.next/\∀x:Id,x.bq<σ.next->σ'.get x=σ.get x:=by
 refine eZ fx rfl fun hl=>?_
 clear hl
 have v1:=bZ hv
 (try((repeat(revert N;apply Pn.out));refine wk (tw @hg @v1) ?_;(repeat(apply Pn.mk;intro N hN))))
 refine .inr (ay _ _ _ _ _ (fun r σ1 hq=>?_) (G6 ps h0 ae ⟨_,_⟩ id aH (sd (tw @v1 @hg))))
 obtain⟨g1,x1⟩:=σ1
 obtain⟨o,rfl,q1,q2,q3,q4⟩:=hq
 (try dsimp only at q1 q2 q3 q4)
 have k2:=q4 ⟨167000000,σ.next⟩ aH
 simp only[go_sem, ↓reduceIte,Nat.reduceEqDiff,Nat.reduceAdd,Nat.reduceSub,Nat.reduceLeDiff,reduceCtorEq]at k2
 apply hN
 clear hN N
 (try((repeat(revert N;apply Pn.out));refine wk @Nat.zero_add ?_;(repeat(apply Pn.mk;intro N hN))))
 refine .inr (ay _ _ _ _ _ (fun r σ2 hq=>?_) (Le Ux Uy ps ae ⟨g1,_⟩ o q1))
 obtain⟨g2,x2⟩:=σ2
 obtain⟨u1,u2,ss,u3,u4,u5,u6⟩:=hq
 (try dsimp only at u1 u2 u3)
 have Zb:ss=L:=H8 hR (u5.trans hp) u6
 rw[Zb]at u3 u4
 have o2:(⟨167000000,σ.next⟩:Id)≠o:=fun e=>by rw[<-e]at q2;(try dsimp only at q2);omega
 have k3:=(u2 _ o2).trans k2
 have of:=eq_false (fun e:o=(⟨167000000,σ.next⟩:Id)=>o2 e.symm)
 apply hN
 clear hN N
 (try((repeat(revert N;apply Pn.out));refine wk @k3 ?_;(repeat(apply Pn.mk;intro N hN))))
 exact eo (.inl rfl) (vs:=[.agg [.own o 0 ps.length]]) (sd @Nat.zero_add) ⟨o,by rw[u4];rfl,sd (tw @of @u3),ae,aH,fun x hx=>by
  have h1:x≠o:=fun e=>by rw[e]at hx;omega
  have h2:=u2 x h1
  have h3:=q4 x aH
  have h4:=bZ hx
  simp only[go_sem, ↓reduceIte,Nat.reduceEqDiff,Nat.reduceAdd,Nat.reduceSub,Nat.reduceLeDiff,reduceCtorEq,h4]at h3
  simp only[go_sem, ↓reduceIte,Nat.reduceEqDiff,Nat.reduceAdd,Nat.reduceSub,Nat.reduceLeDiff,reduceCtorEq,h4,h2,h3]⟩
structure pf (n:Nat) (px:Nat->Option Nat) (L:Nat->Nat):Prop where
 top:∀k,k<n->px k=none->L k=k
 up:∀k j,k<n->px k=some j->j<k/\L j=L k
theorem pf.root {n:Nat} {px:Nat->Option Nat} {L:Nat->Nat} (h:pf n px L) (hL:kK L) {k:Nat} (hk:k<n) (hr:L k=k):px k=none:=by
 rcases hp:px k with _|j
 ·rfl
 ·obtain⟨h1,h2⟩:=h.up k j hk hp
  have:=hL.le j
  omega
theorem pf.start (n:Nat):pf n (fun _=>none) id:=⟨fun _ _ _=>rfl,fun _ _ _ h=>by cases h⟩
theorem pf.join {n:Nat} {px:Nat->Option Nat} {L:Nat->Nat} (h:pf n px L) (hL:kK L) (b:PB) (eG:min (L b.a) (L b.b)<max (L b.a) (L b.b)):pf n (fun k=>if k=max (L b.a) (L b.b)then some (min (L b.a) (L b.b))else px k) (jb L b):=by
 have ha:=hL.idem b.a
 have hb:=hL.idem b.b
 have Kn:L (min (L b.a) (L b.b))=min (L b.a) (L b.b):=by
  rcases Nat.le_total (L b.a) (L b.b)with h|h
  ·rw[Nat.min_eq_left h,ha]
  ·rw[Nat.min_eq_right h,hb]
 have hmx:L (max (L b.a) (L b.b))=max (L b.a) (L b.b):=by
  rcases Nat.le_total (L b.a) (L b.b)with h|h
  ·rw[Nat.max_eq_right h,hb]
  ·rw[Nat.max_eq_left h,ha]
 unfold jb
 generalize min (L b.a) (L b.b)=lo at *
 generalize max (L b.a) (L b.b)=hi at *
 refine⟨fun k hk hp=>?_,fun k j hk hp=>?_⟩
 ·by_cases O7:k=hi
  ·rw[if_pos O7]at hp;cases hp
  ·rw[if_neg O7]at hp
   have:=h.top k hk hp
   rw[if_neg ae];exact this
 ·by_cases O7:k=hi
  ·rw[if_pos O7]at hp
   cases hp
   subst O7
   exact⟨eG,by rw[if_neg ae,if_pos hmx,Kn]⟩
  ·rw[if_neg O7]at hp
   obtain⟨h1,h2⟩:=h.up k j hk hp
   exact⟨h1,by rw[h2]⟩
theorem Dc {L:Nat->Nat} {b:PB} (h:L b.a=L b.b):jb L b=L:=by
 funext k
 unfold jb
 rw[h,Nat.max_self,Nat.min_self]
 split
 ·rename_i h;exact h.symm
 ·rfl
def vV (G:Nat->Id) (px:Nat->Option Nat) (k:Nat):List AV:=[match px k with|none=>.iU|some j=>.ptr (G j) 0 0,.int .i64 (k:Int)]
def xp (g:Rows) (G:Nat->Id) (n:Nat) (px:Nat->Option Nat):Prop:=∀k,k<n->g (G k)=some ⟨true,2,[vV G px k]⟩
theorem xp.frame {g g':Rows} {G:Nat->Id} {n:Nat} {px:Nat->Option Nat} (h:xp g G n px) (hf:∀k,k<n->g' (G k)=g (G k)):xp g' G n px:=fun k hk=>(hf k hk).trans (h k hk)
theorem mZ {G:Nat->Id} {px:Nat->Option Nat} {k:Nat} (h:px k=none):vV G px k=[.iU,.int .i64 (k:Int)]:=by rw[vV,h]
theorem w7 {G:Nat->Id} {px:Nat->Option Nat} {k j:Nat} (h:px k=some j):vV G px k=[.ptr (G j) 0 0,.int .i64 (k:Int)]:=by rw[vV,h]
theorem CL (G:Nat->Id) (n:Nat) (px:Nat->Option Nat) (L:Nat->Nat) (h:pf n px L) (k:Nat) (hk:k<n) (σ:ax) (hG:xp σ.get G n px):
  Call Tryz.prog 255 [.ptr (G k) 0 0] σ fun r σ'=>r=.ptr (G (L k)) 0 0/\σ'.get=σ.get/\σ.next<=σ'.next:=by
 refine eZ fx rfl fun hl=>?_
 clear hl
 (try((repeat(revert N;apply Pn.out));refine wk @Nat.zero_add ?_;(repeat(apply Pn.mk;intro N hN))))
 refine cm (fun m env st=>∃j:Nat,m=j/\j<n/\env 0=.ptr (G j) 0 0/\L j=L k/\st.get=σ.get/\σ.next<=st.next) k ⟨k,rfl,hk,sd @Nat.zero_add,rfl,by(try dsimp only),aH⟩ ?_
 rintro m env_b st_b ⟨j,rfl,hj,b0,hLj,hg,hle⟩ eS
 clear eS
 have fE:=hG m hj
 rcases hp:px m with _|j
 ·rw[mZ hp]at fE
  (try((repeat(revert N;apply Pn.out));refine wk (tw @b0 (tw @hg @fE)) ?_;(repeat(apply Pn.mk;intro N hN))))
  exact eo (.inl rfl) (vs:=[.ptr (G m) 0 0]) (sd @Nat.zero_add) ⟨by rw[<-hLj,h.top m hj hp];rfl,by first|trivial|rfl|exact hg,aH⟩
 ·rw[w7 hp]at fE
  obtain⟨h1,h2⟩:=h.up m j hj hp
  (try((repeat(revert N;apply Pn.out));refine wk (tw @b0 (tw @hg @fE)) ?_;(repeat(apply Pn.mk;intro N hN))))
  exact⟨j,h1,j,rfl,ae,sd @Nat.zero_add,ae,by first|trivial|rfl|exact hg,aH⟩
end Go.Proofs.YtainmfbpilopaaaGreatDoor.V

namespace Go.Proofs.YtainmfbpilopaaaGreatDoor.V
open Go.RowKit
attribute [local irreducible] ea wpOps fB Call
attribute [local go_sem] aL fq eB fC fA dj upd cj K.av cH AV.cells AV.cell rowOf rowsOf part ld rowAt fQ bI bY dp dI fU bJ cY dS fu eP dh dL cW cV dy dz bP aW cK bL cP cL dF dM dK cJ bU cX dJ bK aJ cR cu fS br cF bQ aU de bd dv AV.undef bt bF dD dH dr dq cD dR dU cq dQ dP cQ cU List.getD_cons_zero List.getD_cons_succ List.getD_nil List.all_cons List.all_nil Bool.and_true Bool.true_and Bool.and_self Bool.not_true Bool.not_false Option.map_some Option.map_none Option.bind_some Option.bind_none List.length_cons List.length_nil List.take_succ_cons List.take_zero List.take_nil List.drop_succ_cons List.drop_zero List.drop_nil List.head?_cons List.map_cons List.map_nil List.getElem?_cons_zero List.getElem?_cons_succ List.cons_append List.nil_append List.append_nil List.length_map List.set_cons_zero List.set_cons_succ eq_self Int.toNat_natCast Int.natCast_nonneg and_self true_and and_true decide_true decide_false Bool.false_eq_true Nat.zero_add Nat.add_zero List.contains_cons List.contains_nil Bool.or_false Bool.false_or beq_self_eq_true ne_eq not_true_eq_false not_false_eq_true Id.mk.injEq false_and and_false Nat.le_refl List.length_append beq_true beq_false Bool.not_eq_eq_eq_not or_false false_or eD aq ar aV aX bV cz aQ bp aP aZ cI bz
abbrev mI:MK:=⟨false,[.tI]⟩
def wb (l:List (Nat×Nat)):List (List AV):=l.map fun p=>[.int .i64 (p.1:Int),.int .i64 (p.2:Int)]
theorem Fm (r:Nat):∀(l:List (Nat×Nat)) (i:Nat),((∀p∈l,p.1≠r)->gG mI [.int .i64 (r:Int)] (wb l) i=some none)/\(∀j v,l[j]? =some (r,v)->(∀x y,x<j->l[x]? =some y->y.1≠r)->gG mI [.int .i64 (r:Int)] (wb l) i=some (some (i+j)))
 |[],i=>⟨fun _=>rfl,fun j v h=>by simp at h⟩
 |p::l,i=>by
  obtain⟨h1,h2⟩:=Fm r l (i+1)
  by_cases h:p.1=r
  ·refine⟨fun hp=>absurd h (hp p (by simp)),fun j v hj hf=>?_⟩
   have RI:j=0:=by
    rcases Nat.eq_zero_or_pos j with h0|h0
    ·exact h0
    ·exact absurd h (hf 0 p h0 (by simp))
   subst RI
   simp[wb,gG,eP,fu,MK.ks,h]
  ·have hd:¬((r:Int)=(p.1:Int)):=ae
   have tc:¬r=p.1:=fun he=>h he.symm
   have step:gG mI [.int .i64 (r:Int)] (wb (p::l)) i=gG mI [.int .i64 (r:Int)] (wb l) (i+1):=by
    unfold wb
    simp[gG,MK.ks,eP,fu,hd,tc,h]
   rw[step]
   refine⟨fun hp=>h1 fun q hq=>hp q (by simp[hq]),fun j v hj hf=>?_⟩
   cases j with
   |zero=>simp at hj;rw[hj]at h;exact absurd rfl h
   |succ j=>
    rw[h2 j v (by simpa using hj) fun x y hx hy=>hf (x+1) y ae (by simpa using hy)]
    congr 2;omega
theorem BG {r:Nat} {l:List (Nat×Nat)}:((∀p∈l,p.1≠r)->gC mI (.int .i64 (r:Int)) (wb l)=some none)/\(∀j v,l[j]? =some (r,v)->(∀x y,x<j->l[x]? =some y->y.1≠r)->gC mI (.int .i64 (r:Int)) (wb l)=some (some j)):=by
 have e:gC mI (.int .i64 (r:Int)) (wb l)=gG mI [.int .i64 (r:Int)] (wb l) 0:=by
  unfold gC
  rw[if_pos ⟨rfl,rfl,rfl⟩];rfl
 obtain⟨h1,h2⟩:=Fm r l 0
 rw[e]
 exact⟨h1,fun j v hj hf=>by rw[h2 j v hj hf,Nat.zero_add]⟩
def mv (k:Nat) (L:Nat->Nat):List (List AV):=wb (leads k L).zipIdx
theorem HI {k:Nat} {L:Nat->Nat} (h:L k=k):mv (k+1) L=mv k L++[[.int .i64 (k:Int),.int .i64 ((leads k L).length:Int)]]:=by
 unfold mv
 rw[jh,if_pos h,List.zipIdx_append]
 simp[wb]
theorem HH {k:Nat} {L:Nat->Nat} (h:L k≠k):mv (k+1) L=mv k L:=by
 unfold mv
 rw[jh,if_neg h,List.append_nil]
theorem KM {k:Nat} {L:Nat->Nat} (h:L k=k):gC mI (.int .i64 (k:Int)) (mv k L)=some none:=by
 refine BG.1 fun p hp=>?_
 have:=List.fst_mem_of_mem_zipIdx hp
 have:=(wi.1 this).1
 omega
theorem BM {n:Nat} {L:Nat->Nat} {x y:Nat} (hx:x<(leads n L).length) (hy:y<(leads n L).length) (h:(leads n L)[x]=(leads n L)[y]):x=y:=by
 have hp:=List.pairwise_iff_getElem.1 (xg n L)
 rcases Nat.lt_trichotomy x y with eG|he|eG
 ·exact absurd h (hp x y hx hy eG)
 ·exact he
 ·exact absurd h.symm (hp y x hy hx eG)
theorem BL {k:Nat} {L:Nat->Nat} (hL:kK L) (h:L k≠k):gC mI (.int .i64 (L k:Int)) (mv k L)=some (some (dV L k))/\(mv k L)[dV L k]? =some [.int .i64 (L k:Int),.int .i64 (dV L k:Int)]/\dV L k<(leads k L).length:=by
 have eG:L k<k:=Nat.lt_of_le_of_ne (hL.le k) h
 have hn:dV L (L k)=dV L k:=by rw[dV,hL.idem,dV]
 have hg:=nU hL eG
 rw[hn,hL.idem]at hg
 have hl:dV L k<(leads k L).length:=(List.getElem?_eq_some_iff.1 hg).1
 have hz:(leads k L).zipIdx[dV L k]? =some (L k,dV L k):=by simp[List.getElem?_zipIdx,hg]
 refine⟨BG.2 _ _ hz fun x y hx hy=>?_,by unfold mv wb;rw[List.getElem?_map,hz];rfl,hl⟩
 intro he
 rw[List.getElem?_zipIdx]at hy
 have Zj:x<(leads k L).length:=ae
 rw[List.getElem?_eq_getElem Zj]at hy
 simp at hy
 rw[<-hy]at he
 simp at he
 have e2:(leads k L)[dV L k]=L k:=(List.getElem?_eq_some_iff.1 hg).2
 have:=BM Zj hl (he.trans e2.symm)
 omega
def kV (k:Nat) (L:Nat->Nat):List (List Nat):=(leads k L).map (members k L)
theorem s8 (k:Nat) (L:Nat->Nat):(kV k L).length=(leads k L).length:=by simp[kV]
theorem Hl {k:Nat} {L:Nat->Nat} (hL:kK L) (h:L k=k):kV (k+1) L=kV k L++[[k]]:=by
 unfold kV
 rw[jh,if_pos h,List.map_append,List.map_cons,List.map_nil,l8,if_pos h,Dj hL (Nat.le_refl k),List.nil_append]
 congr 1
 refine List.map_congr_left fun r hr=>?_
 have:=(wi.1 hr).1
 rw[l8,if_neg ae,List.append_nil]
theorem Hm {k:Nat} {L:Nat->Nat} (hL:kK L) (h:L k≠k):(kV k L)[dV L k]? =some (members k L (L k))/\kV (k+1) L=(kV k L).set (dV L k) (members k L (L k)++[k]):=by
 obtain⟨_,_,hl⟩:=BL hL h
 have eG:L k<k:=Nat.lt_of_le_of_ne (hL.le k) h
 have hg:=nU hL eG
 have hn:dV L (L k)=dV L k:=by rw[dV,hL.idem,dV]
 rw[hn,hL.idem]at hg
 refine⟨by unfold kV;rw[List.getElem?_map,hg];rfl,?_⟩
 unfold kV
 rw[jh,if_neg h,List.append_nil]
 refine List.ext_getElem? fun i=>?_
 rw[List.getElem?_set,List.getElem?_map,List.length_map]
 by_cases hi:dV L k=i
 ·subst hi
  rw[if_pos rfl,if_pos hl,hg,Option.map_some,l8,if_pos rfl]
 ·rw[if_neg hi,List.getElem?_map]
  rcases hr:(leads k L)[i]? with _|r
  ·rfl
  ·rw[Option.map_some,Option.map_some,l8,if_neg,List.append_nil]
   rintro rfl
   obtain⟨nR,he⟩:=List.getElem?_eq_some_iff.1 hr
   have e2:(leads k L)[dV L k]=L k:=(List.getElem?_eq_some_iff.1 hg).2
   exact hi (BM hl nR (e2.trans he.symm))
theorem FL (k:Nat) (L:Nat->Nat) (r:Nat):(members k L r).length<=k:=by
 have:=List.length_filter_le (fun x=>L x==r) (List.range k)
 simpa[members]using this
def OO (g:Rows) (o:Id) (L:List (List Nat)) (nx:Nat):Prop:=∃rows ids,g o=some ⟨true,1,rows⟩/\iw ZB g rows L ids/\ids.Nodup/\(∀i∈ids,i.site=215026008/\i.bq<nx)/\o.site=215025002/\o.bq<nx
theorem PR {g':Rows} {v v' LM j:Nat} (h1:g' ⟨215025002,v⟩=some ⟨true,1,[[.own ⟨215026008,v'⟩ 0 1]]⟩) (h2:g' ⟨215026008,v'⟩=some ⟨true,1,[eN j]⟩) (hv:v<LM) (pJ:v'<LM):OO g' ⟨215025002,v⟩ [[j]] LM:=
 ⟨_,[⟨215026008,v'⟩],h1,.one ⟨_,rfl,h2,rfl⟩,by simp,fun i hi=>by rw[List.mem_singleton.1 hi];exact⟨rfl,pJ⟩,rfl,hv⟩
theorem OO.new {g:Rows} {o:Id} {L:List (List Nat)} {nx:Nat} (h:OO g o L nx) (j:Nat):∃rows,g o=some ⟨true,1,rows⟩/\rows.length=L.length/\∀(g':Rows) (v v' LM:Nat),nx<=v'->v<LM->v'<LM->g' ⟨215025002,v⟩=some ⟨true,1,rows++[[.own ⟨215026008,v'⟩ 0 1]]⟩->g' ⟨215026008,v'⟩=some ⟨true,1,[eN j]⟩->(∀i:Id,i.site=215026008->i.bq<nx->g' i=g i)->OO g' ⟨215025002,v⟩ (L++[[j]]) LM:=by
 obtain⟨rows,ids,h1,h2,h3,h4,h5,h6⟩:=h
 refine⟨rows,h1,h2.len,fun g' v v' LM hv tg P8 q1 q2 q3=>⟨_,ids++[⟨215026008,v'⟩],q1,(h2.frame XP fun i hi=>q3 i (h4 i hi).1 (h4 i hi).2).app (.one ⟨_,rfl,q2,rfl⟩),?_,fun i hi=>?_,rfl,tg⟩⟩
 ·refine List.nodup_append.2 ⟨h3,by simp,fun a ha b hb pM=>?_⟩
  rw[List.mem_singleton.1 hb]at pM
  have:=(h4 a ha).2
  rw[pM]at this
  simp only at this
  omega
 ·rcases List.mem_append.1 hi with hi|hi
  ·have:=h4 i hi;exact⟨this.1,ae⟩
  ·rw[List.mem_singleton.1 hi];exact⟨rfl,P8⟩
theorem OO.add {g:Rows} {o:Id} {L:List (List Nat)} {nx k:Nat} {La:List Nat} (h:OO g o L nx) (hk:L[k]? =some La) (j:Nat):∃rows id,g o=some ⟨true,1,rows⟩/\rows.length=L.length/\rows[k]? =some [.own id 0 La.length]/\g id=some ⟨true,1,La.map eN⟩/\id.site=215026008/\id.bq<nx/\∀(g':Rows) (v' LM:Nat),nx<=v'->v'<LM->g' o=some ⟨true,1,rows.set k [.own ⟨215026008,v'⟩ 0 (La.length+1)]⟩->g' ⟨215026008,v'⟩=some ⟨true,1,La.map eN++[[.int .i64 (j:Int)]]⟩->(∀i:Id,i.site=215026008->i.bq<nx->(i=id)=False->g' i=g i)->OO g' o (L.set k (La++[j])) LM:=by
 obtain⟨rows,ids,h1,h2,h3,h4,h5,h6⟩:=h
 have oy:k<L.length:=(List.getElem?_eq_some_iff.1 hk).1
 have hLk:=yU hk oy
 obtain⟨cs,ic,ek,hRv,hic,uq⟩:=h2.repl XP h3 k oy
 rw[hLk]at hRv
 obtain⟨id,rfl,q1,rfl⟩:=hRv
 have hid:=h4 id (hic id (by simp))
 refine⟨rows,id,h1,h2.len,ek,q1,hid.1,hid.2,fun g' v' LM hv tg r1 r2 r3=>?_⟩
 obtain⟨Nh,s1,s2,s3⟩:=uq g' [.own ⟨215026008,v'⟩ 0 (La.length+1)] (La++[j]) [⟨215026008,v'⟩] ⟨_,by simp,by rw[r2];simp[eN],rfl⟩ (fun i hi hni=>r3 i (h4 i hi).1 (h4 i hi).2 (by
  simp only[eq_iff_iff,iff_false];rintro rfl;exact hni (by simp))) (by simp) fun i hi hc=>by
   rw[List.mem_singleton.1 hi]at hc
   have:=(h4 _ hc).2
   simp only at this
   omega
 refine⟨_,Nh,r1,s1,s2,fun i hi=>?_,h5,ae⟩
 rcases s3 i hi with h|h
 ·rw[List.mem_singleton.1 h];exact⟨rfl,tg⟩
 ·have:=h4 i h;exact⟨this.1,ae⟩
def nF (G:Nat->Id) (n k:Nat):List (List AV):=(List.range n).map fun i=>[if i<k then .ptr (G i) 0 0 else .iU]
theorem oj (G:Nat->Id) (n k:Nat):(nF G n k).length=n:=by simp[nF]
theorem Li (G:Nat->Id) (n:Nat):List.replicate n [AV.iU]=nF G n 0:=by
 refine List.ext_getElem? fun i=>?_
 by_cases h:i<n
 ·rw[List.getElem?_replicate,if_pos h];simp[nF,h]
 ·rw[List.getElem?_eq_none (by simp;omega),List.getElem?_eq_none (by rw[oj];omega)]
theorem Ah {G:Nat->Id} {n i:Nat} (h:i<n):(nF G n n)[i]? =some [.ptr (G i) 0 0]:=by simp[nF,h]
theorem Oo {G:Nat->Id} {n k:Nat} (h:k<n):(nF G n k).set k [.ptr (G k) 0 0]=nF G n (k+1):=by
 refine List.ext_getElem? fun i=>?_
 rw[List.getElem?_set,oj]
 by_cases hi:k=i
 ·subst hi;rw[if_pos rfl,if_pos h];simp[nF,h]
 ·rw[if_neg hi]
  by_cases gV:i<n
  ·simp only[nF,List.getElem?_map,List.getElem?_range gV,Option.map_some]
   by_cases Gw:i<k
   ·rw[if_pos Gw,if_pos ae]
   ·rw[if_neg Gw,if_neg ae]
  ·rw[List.getElem?_eq_none (by rw[oj];omega),List.getElem?_eq_none (by rw[oj];omega)]
end Go.Proofs.YtainmfbpilopaaaGreatDoor.V

namespace Go.Proofs.YtainmfbpilopaaaGreatDoor.V
open Go.RowKit
attribute [local irreducible] ea wpOps fB Call
section
theorem iG {o:Id} {a:Nat} (h:o.site=a) {b v:Nat} (pM:(a==b)=false):(o=⟨b,v⟩)=False/\((⟨b,v⟩:Id)=o)=False:=by
 have h1:=Jp h (v:=v) pM
 refine⟨h1,?_⟩
 simp only[eq_iff_iff,iff_false]at h1 ⊢
 exact fun h=>h1 h.symm
theorem yW (cnt:Nat) (sC:1<=cnt) (hn:cnt<=1048576) (bs:List PB) (hb:∀b∈bs,b.a<cnt/\b.b<cnt) (iz:bs.length<=1048576):aw Tryz.prog 215 [.int .i64 cnt,.sl (bs.map di)] (.sl ((jI cnt (fe bs)).map Mp)):=by
 intro n0
 refine vD SM rfl fun hl=>?_
 simp only[zz0,zz1,zz2]
 try simp only[q]
 clear hl
 have kZ:(0:Int)<=(cnt:Int):=ae
 have sq:(cnt:Int)<=((16777216:Nat):Int):=ae
 obtain⟨G,hG⟩:∃G:Nat->Id,G=fun k=>⟨215005004,n0+3+4*k+2⟩:=⟨_,rfl⟩
 have YJ:∀k,(G k).site=215005004:=fun k=>by rw[hG]
 have hGv:∀k,(G k).bq=n0+3+4*k+2:=fun k=>by rw[hG]
 have hGi:∀i j,i≠j->(G i=G j)=False:=fun i j h=>by
  simp only[eq_iff_iff,iff_false]
  intro he
  have h1:=hGv i
  rw[he,hGv j]at h1
  omega
 have PW:∀i s v,(215005004==s)=false->(G i=⟨s,v⟩)=False:=fun i s v h=>Jp (YJ i) h
 have hz:=Li G cnt
 (try((repeat(revert N;apply Pn.out));refine wk (tw @kZ (tw @sq (tw @Int.le_refl @hz))) ?_;(repeat(apply Pn.mk;intro N hN))))
 refine cm (fun n env st=>∃k:Nat,n=(cnt)-k/\k<=(cnt)/\env 21=.int .i64 (k:Int)/\st.get ⟨215001001,n0+1⟩=some ⟨true,1,nF G cnt k⟩/\(st.next=n0+3+4*k/\∀j:Nat,j<k->st.get (G j)=some ⟨true,2,[[.iU,.int .i64 (j:Int)]]⟩)) (cnt) ⟨0,ae,ae,sl @hz,sl @hz,⟨rfl,fun j hj=>ae⟩⟩ ?_
 rintro n_a env_a st_a ⟨k,rfl,ale,a21,ag0,qN⟩ eF
 have a0:=eF 0 (by kernel_rfl);have a1:=eF 1 (by kernel_rfl);have a5:=eF 5 (by kernel_rfl);have Sx:=eF 19 (by kernel_rfl);have a20:=eF 20 (by kernel_rfl)
 simp only[go_sem, ↓reduceIte,Nat.reduceEqDiff,Nat.reduceAdd,Nat.reduceSub,Nat.reduceLeDiff,reduceCtorEq,hz]at a0 a1 a5 Sx a20
 clear eF
 obtain⟨qN,nJ⟩:=qN
 by_cases hk:(k:Int)<(cnt:Int)
 ·have eh:∀{e:Env} {gg:Rows} {nx:Nat},(e 21=.int .i64 (IntKind.i64.wrap ((k:Int)+1)))->(gg ⟨215001001,n0+1⟩=some ⟨true,1,nF G cnt (k+1)⟩)->(nx=n0+3+4*(k+1)/\∀j:Nat,j<(k+1)->gg (G j)=some ⟨true,2,[[.iU,.int .i64 (j:Int)]]⟩)->∃m0,m0<(cnt)-k/\∃k:Nat,m0=(cnt)-k/\k<=(cnt)/\e 21=.int .i64 (k:Int)/\gg ⟨215001001,n0+1⟩=some ⟨true,1,nF G cnt k⟩/\(nx=n0+3+4*k/\∀j:Nat,j<k->gg (G j)=some ⟨true,2,[[.iU,.int .i64 (j:Int)]]⟩):=fun x1 x2 x3=>⟨_,ae,k+1,rfl,ae,(by rw[x1,bf ae]),x2,x3⟩
  have jg:k<cnt:=ae
  have tl:=oj G cnt k
  have gF:=Oo (G:=G) jg
  have iy:(nF G cnt k)[k]? =some [.iU]:=by simp[nF,jg]
  have YH:(⟨215005004,st_a.next+1+1⟩:Id)=G k:=by rw[hG,qN]
  have hGf:∀j,j<k->(G j=G k)=False:=fun j hj=>hGi j k ae
  have C0:∀j,(G j=(⟨215001001,n0+1⟩:Id))=False:=fun j=>PW j _ _ (by decide)
  have Ho:∀j,((⟨215001001,n0+1⟩:Id)=G j)=False:=fun j=>by
   have:=C0 j
   simp only[eq_iff_iff,iff_false]at this ⊢
   exact fun h=>this h.symm
  (try((repeat(revert N;apply Pn.out));refine wk (tw @a21 (tw @ag0 (tw @a0 (tw @a1 (tw @a5 (tw @Sx (tw @a20 (tw @hk (tw @tl (tw @YH (tw @C0 (tw @Ho (tw @gF @iy))))))))))))) ?_;(repeat(apply Pn.mk;intro N hN))))
  refine eh ?_ ?_ (by
   refine⟨by(try dsimp only)<;>omega,fun j hj=>?_⟩
   by_cases Av:j=k
   ·subst Av;simp only[go_sem, ↓reduceIte,Nat.reduceEqDiff,Nat.reduceAdd,Nat.reduceSub,Nat.reduceLeDiff,reduceCtorEq,YH,C0,Ho]
   ·have hold:=nJ j ae
    have iI:=hGf j ae
    simp only[go_sem, ↓reduceIte,Nat.reduceEqDiff,Nat.reduceAdd,Nat.reduceSub,Nat.reduceLeDiff,reduceCtorEq,YH,C0,Ho,iI,hold])
  all_goals simp only[go_sem, ↓reduceIte,Nat.reduceEqDiff,Nat.reduceAdd,Nat.reduceSub,Nat.reduceLeDiff,reduceCtorEq,a21,ag0,a0,a1,a5,Sx,a20,YH,C0,Ho,gF]
 have oy:cnt=k:=ae
 subst oy
 (try((repeat(revert N;apply Pn.out));refine wk (tw @a21 (tw @ag0 (tw @a0 (tw @a1 (tw @a5 (tw @Sx (tw @a20 @hk))))))) ?_;(repeat(apply Pn.mk;intro N hN))))
 refine cm (fun n env st=>∃i:Nat,n=(bs.length)-i/\i<=(bs.length)/\env 33=.int .i64 (i:Int)/\st.get ⟨215001001,n0+1⟩=some ⟨true,1,nF G cnt cnt⟩/\(n0+3+4*cnt<=st.next)/\(∃px,pf cnt px (fe (bs.take i))/\xp st.get G cnt px)) (bs.length) ⟨0,ae,ae,sl (tw @a21 (tw @ag0 (tw @a0 (tw @a1 (tw @a5 (tw @Sx @a20)))))),sl (tw @a21 (tw @ag0 (tw @a0 (tw @a1 (tw @a5 (tw @Sx @a20)))))),aH,⟨fun _=>none,pf.start cnt,nJ⟩⟩ ?_
 rintro n_b env_b st_b ⟨i,rfl,ble,sO,bg0,bI0,bI1⟩ eS
 have b0:=eS 0 (by kernel_rfl);have b1:=eS 1 (by kernel_rfl);have b5:=eS 5 (by kernel_rfl);have Bh:=eS 31 (by kernel_rfl);have si:=eS 32 (by kernel_rfl)
 simp only[go_sem, ↓reduceIte,Nat.reduceEqDiff,Nat.reduceAdd,Nat.reduceSub,Nat.reduceLeDiff,reduceCtorEq,a21,ag0,a0,a1,a5,Sx,a20]at b0 b1 b5 Bh si
 clear eS
 obtain⟨px,Pb,YI⟩:=bI1
 have tl:=oj G cnt cnt
 have WI:∀j v,(G j=(⟨215009002,v⟩:Id))=False:=fun j v=>PW j _ v (by decide)
 have C0:∀j v,(G j=(⟨215001001,v⟩:Id))=False:=fun j v=>PW j _ v (by decide)
 have Ho:∀j v,((⟨215001001,v⟩:Id)=G j)=False:=fun j v=>by
  have:=C0 j v
  simp only[eq_iff_iff,iff_false]at this ⊢
  exact fun h=>this h.symm
 have hGn:∀j,j<cnt->(G j).bq<st_b.next:=fun j hj=>by rw[hGv];omega
 by_cases hi:(i:Int)<(bs.length:Int)
 ·have fb:∀{e:Env} {gg:Rows} {nx:Nat},(e 33=.int .i64 (IntKind.i64.wrap ((i:Int)+1)))->(gg ⟨215001001,n0+1⟩=some ⟨true,1,nF G cnt cnt⟩)->(n0+3+4*cnt<=nx)->(∃px,pf cnt px (fe (bs.take (i+1)))/\xp gg G cnt px)->∃m0,m0<(bs.length)-i/\∃i:Nat,m0=(bs.length)-i/\i<=(bs.length)/\e 33=.int .i64 (i:Int)/\gg ⟨215001001,n0+1⟩=some ⟨true,1,nF G cnt cnt⟩/\(n0+3+4*cnt<=nx)/\(∃px,pf cnt px (fe (bs.take i))/\xp gg G cnt px):=fun x1 x2 x3 x4=>⟨_,ae,i+1,rfl,ae,(by rw[x1,bf ae]),x2,x3,x4⟩
  have gV:i<bs.length:=ae
  have jt:(bs.map di)[i]? =some (di bs[i]):=by simp[gV]
  have Kg:=hb _ (List.getElem_mem gV)
  have oN:bs.take (i+1)=bs.take i++[bs[i]]:=List.take_succ_eq_append_getElem gV
  have I6:fe (bs.take (i+1))=jb (fe (bs.take i)) bs[i]:=by rw[oN,HG]
  have hL:=zj (bs.take i)
  generalize fe (bs.take i)=L at *
  generalize bs[i]=b at *
  have gA:=Ah (G:=G) Kg.1
  have gB:=Ah (G:=G) Kg.2
  have Hp:(b.a:Int)<(cnt:Int):=ae
  have pN:(b.b:Int)<(cnt:Int):=ae
  (try((repeat(revert N;apply Pn.out));refine wk (tw @sO (tw @bg0 (tw @b0 (tw @b1 (tw @b5 (tw @Bh (tw @si (tw @hi (tw @jt (tw @di.eq_1 (tw @gA (tw @gB (tw @Hp (tw @pN @tl)))))))))))))) ?_;(repeat(apply Pn.mk;intro N hN))))
  refine nH (fun e s=>e 0=.int .i64 cnt/\e 1=.sl (bs.map di)/\e 5=.own ⟨215001001,n0+1⟩ 0 cnt/\e 31=.sl (bs.map di)/\e 32=.int .i64 bs.length/\e 33=.int .i64 i/\e 9=.ptr (G (L b.a)) 0 0/\e 10=.ptr (G (L b.b)) 0 0/\(∀j:Id,j.bq<st_b.next->s.get j=st_b.get j)/\st_b.next<=s.next) ?_ ?_
  ·rintro e1 s1 ⟨m0,m1,m5,m31,m32,m33,m9,m10,mf,mn⟩
   apply hN
   clear hN N
   have mG:xp s1.get G cnt px:=YI.frame fun k hk=>mf _ (hGn k hk)
   have mt:=(mf ⟨215001001,n0+1⟩ aH).trans bg0
   have hla:L b.a<cnt:=Nat.lt_of_le_of_lt (hL.le _) Kg.1
   have Xl:L b.b<cnt:=Nat.lt_of_le_of_lt (hL.le _) Kg.2
   have ra:=mG _ hla
   have rb:=mG _ Xl
   rw[mZ (Pb.root hL hla (hL.idem _))]at ra
   rw[mZ (Pb.root hL Xl (hL.idem _))]at rb
   have put:∀(g':Rows) (lo hi:Nat),hi<cnt->g' (G hi)=some ⟨true,2,[[.ptr (G lo) 0 0,.int .i64 (hi:Int)]]⟩->(∀k,k≠hi->k<cnt->g' (G k)=s1.get (G k))->xp g' G cnt (fun k=>if k=hi then some lo else px k):=fun g' lo hi _ h1 h2 k hk=>by
    by_cases O7:k=hi
    ·subst O7;rw[h1,w7 (j:=lo) (if_pos rfl)]
    ·rw[h2 k O7 hk,mG k hk]
     unfold vV
     simp only[if_neg O7]
   rcases Nat.lt_trichotomy (L b.a) (L b.b)with eG|heq|eG
   ·have TE:(L b.a:Int)<(L b.b:Int):=ae
    have hj:=Pb.join hL b ae
    rw[Nat.max_eq_right ae,Nat.min_eq_left ae,<-I6]at hj
    (try((repeat(revert N;apply Pn.out));refine wk (tw @m0 (tw @m1 (tw @m5 (tw @m31 (tw @m32 (tw @m33 (tw @m9 (tw @m10 (tw @ra (tw @rb @TE)))))))))) ?_;(repeat(apply Pn.mk;intro N hN))))
    refine fb ?_ ?_ aH (⟨_,hj,put _ _ _ Xl (sd @Nat.zero_add) (fun k hk _=>by
     have iI:=hGi k _ hk
     simp only[go_sem, ↓reduceIte,Nat.reduceEqDiff,Nat.reduceAdd,Nat.reduceSub,Nat.reduceLeDiff,reduceCtorEq,iI])⟩)
    all_goals simp only[go_sem, ↓reduceIte,Nat.reduceEqDiff,Nat.reduceAdd,Nat.reduceSub,Nat.reduceLeDiff,reduceCtorEq,m0,m1,m5,m31,m32,m33,mt,C0,Ho]
   ·have sC:¬(L b.a:Int)<(L b.b:Int):=ae
    have Pa:¬(L b.b:Int)<(L b.a:Int):=ae
    have Y8:=Dc heq
    rw[Y8]at I6
    (try((repeat(revert N;apply Pn.out));refine wk (tw @m0 (tw @m1 (tw @m5 (tw @m31 (tw @m32 (tw @m33 (tw @m9 (tw @m10 (tw @ra (tw @rb (tw @sC @Pa))))))))))) ?_;(repeat(apply Pn.mk;intro N hN))))
    refine fb ?_ ?_ aH (⟨_,I6▸Pb,mG.frame fun k hk=>rfl⟩)
    all_goals simp only[go_sem, ↓reduceIte,Nat.reduceEqDiff,Nat.reduceAdd,Nat.reduceSub,Nat.reduceLeDiff,reduceCtorEq,m0,m1,m5,m31,m32,m33,mt]
   ·have TE:(L b.b:Int)<(L b.a:Int):=ae
    have sC:¬(L b.a:Int)<(L b.b:Int):=ae
    have hj:=Pb.join hL b ae
    rw[Nat.max_eq_left ae,Nat.min_eq_right ae,<-I6]at hj
    (try((repeat(revert N;apply Pn.out));refine wk (tw @m0 (tw @m1 (tw @m5 (tw @m31 (tw @m32 (tw @m33 (tw @m9 (tw @m10 (tw @ra (tw @rb (tw @TE @sC))))))))))) ?_;(repeat(apply Pn.mk;intro N hN))))
    refine fb ?_ ?_ aH (⟨_,hj,put _ _ _ hla (sd @Nat.zero_add) (fun k hk _=>by
     have iI:=hGi k _ hk
     simp only[go_sem, ↓reduceIte,Nat.reduceEqDiff,Nat.reduceAdd,Nat.reduceSub,Nat.reduceLeDiff,reduceCtorEq,iI])⟩)
    all_goals simp only[go_sem, ↓reduceIte,Nat.reduceEqDiff,Nat.reduceAdd,Nat.reduceSub,Nat.reduceLeDiff,reduceCtorEq,m0,m1,m5,m31,m32,m33,mt,C0,Ho]
  ·intro N hN
   refine fm ?_ ?_<;>(try((repeat(revert N;apply Pn.out));refine wk (tw @sO (tw @bg0 (tw @b0 (tw @b1 (tw @b5 (tw @Bh (tw @si (tw @hi (tw @jt (tw @di.eq_1 (tw @gA (tw @gB (tw @Hp (tw @pN @tl)))))))))))))) ?_;(repeat(apply Pn.mk;intro N hN))))<;>(try refine fm ?_ ?_)<;>(try((repeat(revert N;apply Pn.out));refine wk (tw @sO (tw @bg0 (tw @b0 (tw @b1 (tw @b5 (tw @Bh (tw @si (tw @hi (tw @jt (tw @di.eq_1 (tw @gA (tw @gB (tw @Hp (tw @pN @tl)))))))))))))) ?_;(repeat(apply Pn.mk;intro N hN))))<;>(try refine fm ?_ ?_)<;>(try((repeat(revert N;apply Pn.out));refine wk (tw @sO (tw @bg0 (tw @b0 (tw @b1 (tw @b5 (tw @Bh (tw @si (tw @hi (tw @jt (tw @di.eq_1 (tw @gA (tw @gB (tw @Hp (tw @pN @tl)))))))))))))) ?_;(repeat(apply Pn.mk;intro N hN))))
   all_goals
    refine .inr (ay _ _ _ _ _ (fun r σ1 hq=>?_) (CL G cnt px L Pb b.a Kg.1 _ (YI.frame fun k hk=>sd @WI)))
    obtain⟨g1,x1⟩:=σ1
    obtain⟨rfl,DU,Km⟩:=hq
    (try dsimp only at DU Km)
    subst DU
    apply hN
    clear hN N
    (try((repeat(revert N;apply Pn.out));refine wk (tw @sO (tw @bg0 (tw @b0 (tw @b1 (tw @b5 (tw @Bh (tw @si (tw @hi (tw @jt (tw @di.eq_1 (tw @gA (tw @gB (tw @Hp (tw @pN @tl)))))))))))))) ?_;(repeat(apply Pn.mk;intro N hN))))
    refine .inr (ay _ _ _ _ _ (fun r σ1 hq=>?_) (CL G cnt px L Pb b.b Kg.2 _ (YI.frame fun k hk=>sd @WI)))
    obtain⟨g1,x2⟩:=σ1
    obtain⟨rfl,DU,td⟩:=hq
    (try dsimp only at DU td)
    subst DU
    apply hN
    clear hN N
    (try((repeat(revert N;apply Pn.out));refine wk (tw @sO (tw @bg0 (tw @b0 (tw @b1 (tw @b5 (tw @Bh (tw @si (tw @hi (tw @jt (tw @di.eq_1 (tw @gA (tw @gB (tw @Hp (tw @pN @tl)))))))))))))) ?_;(repeat(apply Pn.mk;intro N hN))))
    exact⟨sd (tw @sO (tw @bg0 (tw @b0 (tw @b1 (tw @b5 (tw @Bh @si)))))),sd (tw @sO (tw @bg0 (tw @b0 (tw @b1 (tw @b5 (tw @Bh @si)))))),sd (tw @sO (tw @bg0 (tw @b0 (tw @b1 (tw @b5 (tw @Bh @si)))))),sd (tw @sO (tw @bg0 (tw @b0 (tw @b1 (tw @b5 (tw @Bh @si)))))),sd (tw @sO (tw @bg0 (tw @b0 (tw @b1 (tw @b5 (tw @Bh @si)))))),sd (tw @sO (tw @bg0 (tw @b0 (tw @b1 (tw @b5 (tw @Bh @si)))))),sd (tw @sO (tw @bg0 (tw @b0 (tw @b1 (tw @b5 (tw @Bh @si)))))),sd (tw @sO (tw @bg0 (tw @b0 (tw @b1 (tw @b5 (tw @Bh @si)))))),fun j hj=>by
     have hv:=bZ hj
     simp only[go_sem, ↓reduceIte,Nat.reduceEqDiff,Nat.reduceAdd,Nat.reduceSub,Nat.reduceLeDiff,reduceCtorEq,hv],aH⟩
 have nR:i=bs.length:=ae
 subst nR
 rw[List.take_length]at Pb
 have hL:=zj bs
 generalize fe bs=L at *
 (try((repeat(revert N;apply Pn.out));refine wk (tw @sO (tw @bg0 (tw @b0 (tw @b1 (tw @b5 (tw @Bh (tw @si (tw @hi @tl)))))))) ?_;(repeat(apply Pn.mk;intro N hN))))
 have l0:mv 0 L=[]:=rfl
 have oS:(none:Option Nat).isSome=false:=rfl
 have oT:∀a:Nat,(some a).isSome=true:=fun _=>rfl
 refine cm (fun n env st=>∃x:Nat,n=(cnt)-x/\x<=(cnt)/\env 81=.int .i64 (x:Int)/\st.get ⟨215001001,n0+1⟩=some ⟨true,1,nF G cnt cnt⟩/\st.get ⟨215017000,st_b.next+1+1⟩=some ⟨true,mI.j4,mv x L⟩/\(st_b.next+3<=st.next/\xp st.get G cnt px)/\((x=0/\env 11=.bj)∨∃o:Id,env 11=.own o 0 (leads x L).length/\OO st.get o (kV x L) st.next)) (cnt) ⟨0,ae,ae,sl (tw @sO (tw @bg0 (tw @b0 (tw @b1 (tw @b5 (tw @Bh (tw @si @l0))))))),sl (tw @sO (tw @bg0 (tw @b0 (tw @b1 (tw @b5 (tw @Bh (tw @si @l0))))))),sl (tw @sO (tw @bg0 (tw @b0 (tw @b1 (tw @b5 (tw @Bh (tw @si @l0))))))),⟨aH,YI.frame fun k hk=>by(have iI:=PW k 215017000 (st_b.next+1+1) (by decide));simp only[go_sem, ↓reduceIte,Nat.reduceEqDiff,Nat.reduceAdd,Nat.reduceSub,Nat.reduceLeDiff,reduceCtorEq,iI]⟩,.inl ⟨rfl,sd @Nat.zero_add⟩⟩ ?_
 rintro n_c env_c st_c ⟨x,rfl,cle,c81,cg0,cg1,cI0,cI1⟩ kE
 have xt:=kE 12 (by kernel_rfl);have Px:=kE 79 (by kernel_rfl);have Py:=kE 80 (by kernel_rfl)
 simp only[go_sem, ↓reduceIte,Nat.reduceEqDiff,Nat.reduceAdd,Nat.reduceSub,Nat.reduceLeDiff,reduceCtorEq,sO,bg0,b0,b1,b5,Bh,si,l0]at xt Px Py
 clear kE
 obtain⟨qv,Wq⟩:=cI0
 have Tl:∀j v,(G j=(⟨215017000,v⟩:Id))=False:=fun j v=>PW j _ v (by decide)
 have Th:∀j v,(G j=(⟨215025002,v⟩:Id))=False:=fun j v=>PW j _ v (by decide)
 have Tj:∀j v,(G j=(⟨215025001,v⟩:Id))=False:=fun j v=>PW j _ v (by decide)
 have Tk:∀j v,(G j=(⟨215026007,v⟩:Id))=False:=fun j v=>PW j _ v (by decide)
 have Ti:∀j v,(G j=(⟨215026008,v⟩:Id))=False:=fun j v=>PW j _ v (by decide)
 by_cases hx:(x:Int)<(cnt:Int)
 ·have jv:∀{e:Env} {gg:Rows} {nx:Nat},(e 81=.int .i64 (IntKind.i64.wrap ((x:Int)+1)))->(gg ⟨215001001,n0+1⟩=some ⟨true,1,nF G cnt cnt⟩)->(gg ⟨215017000,st_b.next+1+1⟩=some ⟨true,mI.j4,mv (x+1) L⟩)->(st_b.next+3<=nx/\xp gg G cnt px)->(((x+1)=0/\e 11=.bj)∨∃o:Id,e 11=.own o 0 (leads (x+1) L).length/\OO gg o (kV (x+1) L) nx)->∃m0,m0<(cnt)-x/\∃x:Nat,m0=(cnt)-x/\x<=(cnt)/\e 81=.int .i64 (x:Int)/\gg ⟨215001001,n0+1⟩=some ⟨true,1,nF G cnt cnt⟩/\gg ⟨215017000,st_b.next+1+1⟩=some ⟨true,mI.j4,mv x L⟩/\(st_b.next+3<=nx/\xp gg G cnt px)/\((x=0/\e 11=.bj)∨∃o:Id,e 11=.own o 0 (leads x L).length/\OO gg o (kV x L) nx):=fun x1 x2 x3 x4 x5=>⟨_,ae,x+1,rfl,ae,(by rw[x1,bf ae]),x2,x3,x4,x5⟩
  have hxn:x<cnt:=ae
  have gX:=Ah (G:=G) hxn
  have hlx:L x<cnt:=Nat.lt_of_le_of_lt (hL.le _) hxn
  have ra:=Wq _ hlx
  rw[mZ (Pb.root hL hlx (hL.idem _))]at ra
  have fc:=nV x L
  (try((repeat(revert N;apply Pn.out));refine wk (tw @c81 (tw @cg0 (tw @cg1 (tw @xt (tw @Px (tw @Py (tw @hx (tw @gX @tl)))))))) ?_;(repeat(apply Pn.mk;intro N hN))))
  refine .inr (ay _ _ _ _ _ (fun r σ1 hq=>?_) (CL G cnt px L Pb x hxn _ (Wq.frame fun k hk=>sd @Nat.zero_add)))
  obtain⟨g1,x1⟩:=σ1
  obtain⟨rfl,DU,Km⟩:=hq
  (try dsimp only at DU Km)
  subst DU
  apply hN
  clear hN N
  by_cases hr:L x=x
  ·rw[hr]at ra ⊢
   have lU:=KM hr
   have YZ:(leads (x+1) L).length=(leads x L).length+1:=by rw[jh,if_pos hr];simp
   have C7:=HI hr
   have YV:=Hl hL hr
   rcases cI1 with⟨rfl,Lz⟩|⟨o,Lz,cS⟩
   ·have hsc1:mv 1 L=[[.int .i64 ((0:Nat):Int),.int .i64 ((0:Nat):Int)]]:=C7
    (try((repeat(revert N;apply Pn.out));refine wk (tw @c81 (tw @cg0 (tw @cg1 (tw @xt (tw @Px (tw @Py (tw @Lz (tw @ra (tw @lU (tw @l0 (tw @oS (tw @oT (tw @Bool.not_false @Bool.not_true))))))))))))) ?_;(repeat(apply Pn.mk;intro N hN))))
    refine jv ?_ ?_ ?_ (by(try dsimp only);exact⟨ae,Wq.frame fun k hk=>sd (tw @Tl (tw @Th (tw @Ti (tw @Tj @Tk))))⟩) (.inr ⟨⟨215025002,x1+1+1+1+1⟩,by simp only[go_sem, ↓reduceIte,Nat.reduceEqDiff,Nat.reduceAdd,Nat.reduceSub,Nat.reduceLeDiff,reduceCtorEq,YZ];rfl,by rw[YV];exact PR (v':=x1+1+1+1+1+1) (sd @Nat.zero_add) (sd @eN.eq_1) aH aH⟩)
    all_goals simp only[go_sem, ↓reduceIte,Nat.reduceEqDiff,Nat.reduceAdd,Nat.reduceSub,Nat.reduceLeDiff,reduceCtorEq,c81,cg0,cg1,xt,Px,Py,hsc1]
   ·obtain⟨rows,As,Gy,lS⟩:=cS.new x
    rw[s8]at Gy
    have vk:o.site=215025002:=by obtain⟨_,_,_,_,_,_,h,_⟩:=cS;exact h
    have Kp:o.bq<x1:=by obtain⟨_,_,_,_,_,_,_,h⟩:=cS;omega
    have y8:=bZ Kp
    have Xt:=iG (o:=o) vk (b:=215017000) (v:=st_b.next+1+1) (by decide)
    have VY:=iG (o:=o) vk (b:=215001001) (v:=n0+1) (by decide)
    have Tm:∀k,(G k=o)=False:=fun k=>by simp only[eq_iff_iff,iff_false];intro h;have h1:=YJ k;rw[h,vk]at h1;cases h1
    have Ar:(rows++[[AV.bj]])[(leads x L).length]? =some [.bj]:=by rw[<-Gy];simp
    have qZ:∀a:List AV,(rows++[[AV.bj]]).set (leads x L).length a=rows++[a]:=fun a=>by rw[<-Gy];simp
    have e1:(leads x L).length+1<=16777216:=ae
    have e2:((leads x L).length:Int)<(((leads x L).length+1:Nat):Int):=ae
    (try((repeat(revert N;apply Pn.out));refine wk (tw @c81 (tw @cg0 (tw @cg1 (tw @xt (tw @Px (tw @Py (tw @Lz (tw @ra (tw @lU (tw @As (tw @Gy (tw @y8 (tw @Xt (tw @Ar (tw @qZ (tw @e1 (tw @e2 (tw @oS (tw @oT (tw @Bool.not_false @Bool.not_true)))))))))))))))))))) ?_;(repeat(apply Pn.mk;intro N hN))))
    refine jv ?_ ?_ ?_ (by(try dsimp only);exact⟨ae,Wq.frame fun k hk=>sd (tw @Tl (tw @Th (tw @Ti (tw @Tj (tw @Tk @Tm)))))⟩) (.inr ⟨⟨215025002,x1+1+1+1+1⟩,sd @YZ,by rw[YV];exact lS _ _ (x1+1+1+1+1+1) _ ae aH aH (sd @qZ) (sd @eN.eq_1) (fun j hj hv=>by
     have q1:=bZ (i:=j) (n:=x1) ae
     have q2:=iG hj (b:=215017000) (v:=st_b.next+1+1) (by decide)
     have q3:(j=o)=False:=by simp only[eq_iff_iff,iff_false];intro h;rw[h,vk]at hj;cases hj
     simp only[go_sem, ↓reduceIte,Nat.reduceEqDiff,Nat.reduceAdd,Nat.reduceSub,Nat.reduceLeDiff,reduceCtorEq,q1,q2,q3])⟩)
    all_goals simp only[go_sem, ↓reduceIte,Nat.reduceEqDiff,Nat.reduceAdd,Nat.reduceSub,Nat.reduceLeDiff,reduceCtorEq,c81,cg0,cg1,xt,Px,Py,C7,y8,Xt,VY]
  ·obtain⟨lU,Gz,eG⟩:=BL hL hr
   obtain⟨Kk,YV⟩:=Hm hL hr
   have YZ:(leads (x+1) L).length=(leads x L).length:=by rw[jh,if_neg hr];simp
   have Y8:=HH hr
   rcases cI1 with⟨rfl,Lz⟩|⟨o,Lz,cS⟩
   ·exact absurd (Nat.le_zero.1 (hL.le 0)) hr
   ·obtain⟨rows,id,As,Gy,hrk,hid,MX,hidv,hadd⟩:=cS.add Kk x
    rw[s8]at Gy
    have vk:o.site=215025002:=by obtain⟨_,_,_,_,_,_,h,_⟩:=cS;exact h
    have Kp:o.bq<x1:=by obtain⟨_,_,_,_,_,_,_,h⟩:=cS;omega
    have y8:=bZ Kp
    have tg:=bZ (i:=id) (n:=x1) ae
    have jt:(dV L x:Int)<((leads x L).length:Int):=ae
    have hmx:=FL x L (L x)
    have hma:((members x L (L x)).map eN).length=(members x L (L x)).length:=by simp
    have e1:(members x L (L x)).length+1<=16777216:=ae
    have hoi:(o=id)=False:=by simp only[eq_iff_iff,iff_false];rintro rfl;rw[MX]at vk;cases vk
    have hio:(id=o)=False:=by simp only[eq_iff_iff,iff_false];rintro rfl;rw[MX]at vk;cases vk
    have Xt:=iG (o:=o) vk (b:=215017000) (v:=st_b.next+1+1) (by decide)
    have VY:=iG (o:=o) vk (b:=215001001) (v:=n0+1) (by decide)
    have hiM:=iG (o:=id) MX (b:=215017000) (v:=st_b.next+1+1) (by decide)
    have hiT:=iG (o:=id) MX (b:=215001001) (v:=n0+1) (by decide)
    have Tm:∀k,(G k=o)=False:=fun k=>by simp only[eq_iff_iff,iff_false];intro h;have h1:=YJ k;rw[h,vk]at h1;cases h1
    have hGoi:∀k,(G k=id)=False:=fun k=>by simp only[eq_iff_iff,iff_false];intro h;have h1:=YJ k;rw[h,MX]at h1;cases h1
    (try((repeat(revert N;apply Pn.out));refine wk (tw @c81 (tw @cg0 (tw @cg1 (tw @xt (tw @Px (tw @Py (tw @Lz (tw @ra (tw @lU (tw @Gz (tw @As (tw @Gy (tw @hrk (tw @hid (tw @y8 (tw @tg (tw @jt (tw @hma (tw @e1 (tw @hoi (tw @hio (tw @Xt (tw @VY (tw @hiM (tw @hiT (tw @oS (tw @oT (tw @Bool.not_false @Bool.not_true)))))))))))))))))))))))))))) ?_;(repeat(apply Pn.mk;intro N hN))))
    refine jv ?_ ?_ ?_ (by(try dsimp only);exact⟨ae,Wq.frame fun k hk=>sd (tw @Tl (tw @Th (tw @Ti (tw @Tj (tw @Tk (tw @Tm @hGoi))))))⟩) (.inr ⟨o,sd (tw @YZ @Lz),by rw[YV];exact hadd _ (x1+1+1) _ ae aH (sd @Nat.zero_add) (sd (tw @y8 (tw @tg (tw @hoi @hio)))) (fun j hj hv ny=>by
     have q1:=bZ (i:=j) (n:=x1) ae
     have q2:=iG hj (b:=215017000) (v:=st_b.next+1+1) (by decide)
     have q3:(j=o)=False:=by simp only[eq_iff_iff,iff_false];intro h;rw[h,vk]at hj;cases hj
     simp only[go_sem, ↓reduceIte,Nat.reduceEqDiff,Nat.reduceAdd,Nat.reduceSub,Nat.reduceLeDiff,reduceCtorEq,q1,q2,q3,ny])⟩)
    all_goals simp only[go_sem, ↓reduceIte,Nat.reduceEqDiff,Nat.reduceAdd,Nat.reduceSub,Nat.reduceLeDiff,reduceCtorEq,c81,cg0,cg1,xt,Px,Py,Y8,y8,tg,Xt,VY,hiM,hiT]
 have hxc:x=cnt:=ae
 rcases cI1 with⟨h0,_⟩|⟨o,Lz,rows,ids,As,hR,_,_,_,_⟩
 ·omega
 have Gy:=hR.len
 rw[s8]at Gy
 (try((repeat(revert N;apply Pn.out));refine wk (tw @c81 (tw @cg0 (tw @cg1 (tw @xt (tw @Px (tw @Py (tw @hx (tw @Lz @As)))))))) ?_;(repeat(apply Pn.mk;intro N hN))))
 refine F5 (.inl rfl) (by simp only[go_sem, ↓reduceIte,Nat.reduceEqDiff,Nat.reduceAdd,Nat.reduceSub,Nat.reduceLeDiff,reduceCtorEq];rfl) ?_
 rw[qU As ae (rows':=(jI cnt L).map Mp) (by
  rw[List.drop_zero,List.take_of_length_le ae]
  rw[hxc]at hR;exact Uf 3 hR)]
theorem OB (b:PB) (t:Int):aw Tryz.prog 218 [.agg (di b),.ef [.int .i64 t]] (.bool (decide (b.s<t))):=by
 refine aw.body fx rfl fun hl n0=>?_
 clear hl
 (try((repeat(revert N;apply Pn.out));refine wk @di.eq_1 ?_;(repeat(apply Pn.mk;intro N hN))))
 exact da (b:=decide (b.s<t)) (.inl rfl) (sd @Nat.zero_add) rfl
theorem BF (bs:List PB) (t:Int) (hl:bs.length<=1048576):aw Tryz.prog 256 [.sl (bs.map di),.fn 218 [.ef [.int .i64 t]]] (.int .i64 (lQ (fun b:PB=>decide (b.s<t)) bs)):=
 xd Mr (show CC Tryz.prog 256=some (th 256 3 true) by kernel_rfl) bs hl 218 _ _ (fun x _=>OB x t) fun g=>by simp only[aq,ar,aP,Option.map_some]
theorem Mn (bs:List PB) (hp:0<bs.length) (hl:bs.length<=1048576) (σ:ax):
  Call Tryz.prog 217 [.sl (bs.map di)] σ fun r σ'=>∃o:Id,r=.own o 0 bs.length/\σ'.get o=some ⟨true,3,bs.map di⟩/\σ.next<=o.bq/\o.bq<σ'.next/\∀i:Id,i.bq<σ.next->σ'.get i=σ.get i:=by
 refine eZ fx rfl fun hl=>?_
 clear hl
 have hz:=all_map (l:=bs) Ys
 obtain⟨b,r,rfl⟩:∃b r,bs=b::r:=by
  cases bs with
  |nil=>simp at hp
  |cons b r=>exact⟨b,r,rfl⟩
 have fc:(List.map di (b::r)).length=(b::r).length:=by simp
 have e1:r.length<=16777215:=by simp at hl;omega
 rw[List.map_cons]at hz fc ⊢
 (try((repeat(revert N;apply Pn.out));refine wk (tw @hz (tw @fc @e1)) ?_;(repeat(apply Pn.mk;intro N hN))))
 refine eo (.inl rfl) (vs:=[.own ⟨217003002,σ.next+1+1⟩ 0 (b::r).length]) (by simp only[gU,jj,go_sem, ↓reduceIte,Nat.reduceEqDiff,Nat.reduceAdd,Nat.reduceSub,Nat.reduceLeDiff,reduceCtorEq,List.length_cons]) ⟨⟨217003002,σ.next+1+1⟩,rfl,sd @Nat.zero_add,aH,aH,fun i hi=>?_⟩
 have hv:=bZ hi
 simp only[go_sem, ↓reduceIte,Nat.reduceEqDiff,Nat.reduceAdd,Nat.reduceSub,Nat.reduceLeDiff,reduceCtorEq,hv]
theorem qH {t:Int} {bs:List PB} {j:Nat} (hj:j<bs.length):bW t (bs.take (j+1))=bW t (bs.take j)++if decide (bs[j].s<t)=true then[]else[bs[j]]:=by
 rw[Ge t bs j hj]
 congr 1
 by_cases h:bs[j].s<t
 ·rw[if_neg ae,if_pos (decide_eq_true h)]
 ·rw[if_pos ae,if_neg (by simp only[decide_eq_true_eq];exact h)]
theorem xl {t:Int} {bs:List PB} (h:∀b∈bs,¬b.s<t):bW t bs=bs:=by
 unfold bW
 rw[List.filter_eq_self]
 intro b hb
 have:=h b hb
 exact decide_eq_true ae
structure xo (t:Int) (bs:List PB) (j:Nat) (R:List PB):Prop where
 len:R.length=bs.length
 pre:R.take (bW t (bs.take j)).length=bW t (bs.take j)
 post:∀x,j<=x->R[x]? =bs[x]?
 lt:(bW t (bs.take j)).length<j
theorem xo.start {t:Int} {bs:List PB} {i:Nat} (hi:i<bs.length) (hw:bs[i].s<t) (hp:∀x (h:x<i),¬bs[x].s<t):xo t bs (i+1) bs/\(bW t (bs.take (i+1))).length=i:=by
 have h1:bW t (bs.take i)=bs.take i:=xl fun b hb=>by
  obtain⟨x,hx,rfl⟩:=List.getElem_of_mem hb
  rw[List.length_take]at hx
  rw[List.getElem_take]
  exact hp x ae
 have h2:bW t (bs.take (i+1))=bs.take i:=by rw[qH hi,if_pos (decide_eq_true hw),List.append_nil,h1]
 have h3:(bs.take i).length=i:=by rw[List.length_take];omega
 exact⟨⟨rfl,by rw[h2,h3],fun _ _=>rfl,by rw[h2,h3];omega⟩,by rw[h2,h3]⟩
theorem xo.weak {t:Int} {bs R:List PB} {j:Nat} (h:xo t bs j R) (hj:j<bs.length) (hw:bs[j].s<t):xo t bs (j+1) R/\(bW t (bs.take (j+1))).length=(bW t (bs.take j)).length:=by
 have h2:bW t (bs.take (j+1))=bW t (bs.take j):=by rw[qH hj,if_pos (decide_eq_true hw),List.append_nil]
 exact⟨⟨h.len,by rw[h2];exact h.pre,fun x hx=>h.post x ae,by rw[h2];have:=h.lt;omega⟩,by rw[h2]⟩
theorem xo.Fy {t:Int} {bs R:List PB} {j:Nat} (h:xo t bs j R) (hj:j<bs.length) (hw:¬bs[j].s<t):xo t bs (j+1) (R.set (bW t (bs.take j)).length bs[j])/\(bW t (bs.take (j+1))).length=(bW t (bs.take j)).length+1:=by
 have h2:bW t (bs.take (j+1))=bW t (bs.take j)++[bs[j]]:=by rw[qH hj,if_neg (by simp only[decide_eq_true_eq];exact hw)]
 have eG:=h.lt
 have hlen:=h.len
 have AP:=h.pre
 generalize hc:(bW t (bs.take j)).length=c at *
 refine⟨⟨by rw[List.length_set];exact hlen,?_,fun x hx=>?_,by rw[h2,List.length_append,hc];simp;omega⟩,by rw[h2,List.length_append,hc];rfl⟩
 ·rw[h2,List.length_append,hc,List.length_singleton,List.take_succ_eq_append_getElem (by rw[List.length_set];omega),List.getElem_set_self,List.take_set_of_le (Nat.le_refl _),AP]
 ·rw[List.getElem?_set_ne ae];exact h.post x ae
theorem xo.at_ {t:Int} {bs R:List PB} {j:Nat} (h:xo t bs j R) (hj:j<bs.length):(R.map di)[j]? =some (di bs[j]):=by
 rw[List.getElem?_map,h.post j (Nat.le_refl j),List.getElem?_eq_getElem hj];rfl
theorem G8 {p:PB->Bool} {bs:List PB} (h:¬0<=lQ p bs):∀b∈bs,p b=false:=by
 intro b hb
 unfold lQ at h
 split at h
 ·omega
 ·rename_i h1
  rw[List.findIdx_lt_length]at h1
  cases hp:p b
  ·rfl
  ·exact absurd ⟨b,hb,hp⟩ h1
theorem G9 {p:PB->Bool} {bs:List PB} (h:0<=lQ p bs):∃i,∃hi:i<bs.length,lQ p bs=(i:Int)/\p bs[i]=true/\∀x (hx:x<i),p (bs[x]'ae)=false:=by
 unfold lQ at h ⊢
 split
 ·rename_i h1
  exact⟨bs.findIdx p,h1,rfl,List.findIdx_getElem,fun x hx=>by simpa using List.not_of_lt_findIdx hx⟩
 ·rename_i h1;rw[if_neg h1]at h;omega
theorem JX (bs:List PB) (t:Int) (hl:bs.length<=1048576) (o T:Id) (σ:ax) (ho:σ.get o=some ⟨true,3,bs.map di⟩) (hT:σ.get T=some ⟨true,1,[[.int .i64 t]]⟩) (Kp:o.bq<σ.next) (C1:T.bq<σ.next) (VY:o≠T):
  Call Tryz.prog 216 [.own o 0 bs.length,.fn 218 [.ptr T 0 0]] σ fun r σ'=>∃rows,r=.own o 0 (bW t bs).length/\σ'.get o=some ⟨true,3,rows⟩/\rows.take (bW t bs).length=(bW t bs).map di/\(bW t bs).length<=rows.length/\σ.next<=σ'.next/\∀i:Id,i.bq<σ.next->i≠o->σ'.get i=σ.get i:=by
 refine eZ fx rfl fun fD=>?_
 clear fD
 have AN:=BF bs t hl
 have hzT:∀(g:Rows),g T=some ⟨true,1,[[.int .i64 t]]⟩->V.fz (eD g) 5 (.ptr T 0 0)=some (.ef [.int .i64 t]):=fun g hg=>s5 (sz:=1) (rows:=[[.int .i64 t]]) (by simp[eD,hg]) rfl (by simp only[List.drop_zero,aq,ar,aV,Option.map_some])
 have DY:∀(g:Rows),g T=some ⟨true,1,[[.int .i64 t]]⟩->g o=some ⟨true,3,bs.map di⟩->eI (eD g) 6 [.own o 0 bs.length,.fn 218 [.ptr T 0 0]]=some [.sl (bs.map di),.fn 218 [.ef [.int .i64 t]]]:=fun g h1 h2=>by
  have q1:=jT (g:=eD g) (n:=5) (e:=di) (sz:=3) (len:=bs.length) (l:=bs) (id:=o) (by simp[eD,h2]) rfl fun b=>CP _ 4 b
  have q2:=hzT g h1
  simp only[aq,ar,q1,cI,List.all_cons,List.all_nil,AV.cell,Bool.and_true,if_true,q2,Option.map_some]
 have rV:∀(g:Rows),g T=some ⟨true,1,[[.int .i64 t]]⟩->∀b:PB,eI (eD g) 6 [.agg (di b),.ptr T 0 0]=some [.agg (di b),.ef [.int .i64 t]]:=fun g h1 b=>by
  have q3:V.fz (eD g) 6 (.ptr T 0 0)=some (.ef [.int .i64 t]):=s5 (sz:=1) (rows:=[[.int .i64 t]]) (by simp[eD,h1]) rfl (by simp only[List.drop_zero,aq,ar,aV,Option.map_some])
  simp only[aq,ar,bp,CP,q3,Option.map_some]
 (try((repeat(revert N;apply Pn.out));refine wk @Nat.zero_add ?_;(repeat(apply Pn.mk;intro N hN))))
 refine .inl ⟨_,aw.x AN (DY _ hT ho),?_⟩
 apply hN
 clear hN N
 by_cases h0:0<=lQ (fun b:PB=>decide (b.s<t)) bs
 ·obtain⟨i,hi,O4,Y2,M6⟩:=G9 h0
  rw[O4]at *
  have P3:decide ((i:Int)= -1)=false:=decide_eq_false ae
  have XG:IntKind.i64.wrap ((i:Int)+1)=((i+1:Nat):Int):=bf ae
  obtain⟨ed,qZ⟩:=xo.start (t:=t) hi (by simpa using Y2) (fun x hx=>by simpa using M6 x hx)
  (try((repeat(revert N;apply Pn.out));refine wk (tw @P3 @XG) ?_;(repeat(apply Pn.mk;intro N hN))))
  refine cm (fun m env st=>∃(j:Nat) (R:List PB),m=bs.length-j/\env 6=.int .i64 (j:Int)/\env 5=.int .i64 ((bW t (bs.take j)).length:Int)/\st.get o=some ⟨true,3,R.map di⟩/\xo t bs j R/\j<=bs.length/\σ.next<=st.next/\∀x:Id,x.bq<σ.next->(x=o)=False->st.get x=σ.get x) (bs.length-(i+1)) ⟨i+1,bs,rfl,sd @XG,sd @qZ,sd @ho,ed,ae,aH,fun x _ _=>sd @Nat.zero_add⟩ ?_
  rintro m env_b st_b ⟨j,R,rfl,b6,b5,bg,hD,iX,hle,iO⟩ eS
  have b0:=eS 0 (by kernel_rfl)
  have b1:=eS 1 (by kernel_rfl)
  simp only[go_sem, ↓reduceIte,Nat.reduceEqDiff,Nat.reduceAdd,Nat.reduceSub,Nat.reduceLeDiff,reduceCtorEq]at b0 b1
  clear eS
  have bT:=(iO T C1 (by simp only[eq_iff_iff,iff_false];exact fun h=>VY h.symm)).trans hT
  have ni:=bZ (i:=o) (n:=st_b.next) ae
  have hvT:=bZ (i:=T) (n:=st_b.next) ae
  have hRl:=hD.len
  have hRm:(R.map di).length=bs.length:=by rw[List.length_map,hRl]
  have eG:=hD.lt
  by_cases hj:(j:Int)<(bs.length:Int)
  ·have pQ:j<bs.length:=ae
   have LG:=hD.at_ pQ
   have Zh:=OB bs[j] t
   have Zg:IntKind.i64.wrap ((j:Int)+1)=((j+1:Nat):Int):=bf ae
   have hD1:=hD.weak pQ
   have hD2:=hD.Fy pQ
   generalize bs[j]=b at *
   (try((repeat(revert N;apply Pn.out));refine wk (tw @b0 (tw @b1 (tw @b5 (tw @b6 (tw @bg (tw @hj (tw @LG (tw @di.eq_1 (tw @ni (tw @hvT @hRm)))))))))) ?_;(repeat(apply Pn.mk;intro N hN))))
   refine .inl ⟨_,aw.x Zh (rV _ (sd (tw @hvT @bT)) b),?_⟩
   apply hN
   clear hN N
   by_cases hw:b.s<t
   ·obtain⟨Z9,Z8⟩:=hD1 hw
    have hd:decide (b.s<t)=true:=decide_eq_true hw
    (try((repeat(revert N;apply Pn.out));refine wk (tw @b0 (tw @b1 (tw @b5 (tw @b6 (tw @hd @Zg))))) ?_;(repeat(apply Pn.mk;intro N hN))))
    refine⟨_,?_,j+1,R,rfl,sd @Zg,sd (tw @b5 @Z8),sd (tw @bg @ni),Z9,ae,aH,fun x hx DX=>?_⟩
    ·omega
    ·have V2:=bZ (i:=x) (n:=st_b.next) ae
     have:=iO x hx DX
     simp only[go_sem, ↓reduceIte,Nat.reduceEqDiff,Nat.reduceAdd,Nat.reduceSub,Nat.reduceLeDiff,reduceCtorEq,V2,this]
   ·obtain⟨Z9,Z8⟩:=hD2 hw
    have hd:decide (b.s<t)=false:=decide_eq_false hw
    have hci:((bW t (bs.take j)).length:Int)<(bs.length:Int):=ae
    have hwc:IntKind.i64.wrap (((bW t (bs.take j)).length:Int)+1)=(((bW t (bs.take j)).length+1:Nat):Int):=bf ae
    have gF:(R.map di).set (bW t (bs.take j)).length [.int .i64 (b.a:Int),.int .i64 (b.b:Int),.int .i64 b.s]=(R.set (bW t (bs.take j)).length b).map di:=by rw[List.map_set];rfl
    have RH:∃y,(R.map di)[(bW t (bs.take j)).length]? =some (di y):=⟨R[(bW t (bs.take j)).length]'ae,by rw[List.getElem?_map,List.getElem?_eq_getElem ae];rfl⟩
    obtain⟨y,RH⟩:=RH
    rw[di]at RH
    (try((repeat(revert N;apply Pn.out));refine wk (tw @b0 (tw @b1 (tw @b5 (tw @b6 (tw @bg (tw @hd (tw @Zg (tw @hwc (tw @hci (tw @gF (tw @RH (tw @ni (tw @hvT @hRm))))))))))))) ?_;(repeat(apply Pn.mk;intro N hN))))
    refine⟨_,?_,j+1,_,rfl,sd @Zg,sd (tw @hwc @Z8),sd @gF,Z9,ae,aH,fun x hx DX=>?_⟩
    ·omega
    ·have V2:=bZ (i:=x) (n:=st_b.next) ae
     have:=iO x hx DX
     simp only[go_sem, ↓reduceIte,Nat.reduceEqDiff,Nat.reduceAdd,Nat.reduceSub,Nat.reduceLeDiff,reduceCtorEq,V2,this,DX]
  ·have iX:j=bs.length:=ae
   subst iX
   have AP:=hD.pre
   rw[List.take_length]at b5 eG AP
   have hci:((bW t bs).length:Int)<=(bs.length:Int):=ae
   have hcn:(bW t bs).length<=bs.length:=ae
   have nS:(bW t bs).length+(bs.length-(bW t bs).length)=bs.length:=ae
   have qZ:=Af t bs
   (try((repeat(revert N;apply Pn.out));refine wk (tw @b0 (tw @b1 (tw @b5 (tw @b6 (tw @bg (tw @hj (tw @hRm (tw @hci (tw @hcn (tw @nS (tw @Nat.le_refl (tw @Nat.sub_zero (tw @Int.le_refl @ni))))))))))))) ?_;(repeat(apply Pn.mk;intro N hN))))
   refine eo (.inl rfl) (vs:=[.own o 0 (bW t bs).length]) (sd @Nat.zero_add) ⟨_,rfl,by simp only[go_sem, ↓reduceIte,Nat.reduceEqDiff,Nat.reduceAdd,Nat.reduceSub,Nat.reduceLeDiff,reduceCtorEq];rfl,?_,?_,aH,fun x hx DX=>?_⟩
   ·have hm:List.take (bW t bs).length (List.map di R)=(bW t bs).map di:=by rw[<-List.map_take,AP]
    rw[hm,List.append_assoc,List.take_append_of_le_length (by simp),List.take_of_length_le (by simp)]
   ·have hm:List.take (bW t bs).length (List.map di R)=(bW t bs).map di:=by rw[<-List.map_take,AP]
    rw[hm]
    simp only[List.length_append,List.length_map]
    omega
   ·have XI:(x=o)=False:=by simp only[eq_iff_iff,iff_false];exact DX
    have:=iO x hx XI
    simp only[go_sem, ↓reduceIte,Nat.reduceEqDiff,Nat.reduceAdd,Nat.reduceSub,Nat.reduceLeDiff,reduceCtorEq,XI,this]
 ·have hn:=G8 h0
  have ed:=xl (t:=t) (bs:=bs) fun b hb=>by simpa using hn b hb
  have hd:decide (lQ (fun b:PB=>decide (b.s<t)) bs= -1)=true:=decide_eq_true (by
   unfold lQ at h0 ⊢
   split
   ·rename_i h;rw[if_pos h]at h0;omega
   ·rfl)
  (try((repeat(revert N;apply Pn.out));refine wk @hd ?_;(repeat(apply Pn.mk;intro N hN))))
  refine eo (.inl rfl) (vs:=[.own o 0 bs.length]) (sd @Nat.zero_add) ⟨bs.map di,by rw[ed];rfl,sd @ho,by rw[ed,List.take_of_length_le (by simp)],by rw[ed];simp,aH,fun x _ _=>rfl⟩
def xf (p:ai->Bool) (l:List ai):List ai:=l.filter fun x=> !p x
theorem Uc {p:ai->Bool} {l:List ai} {j:Nat} (hj:j<l.length):xf p (l.take (j+1))=xf p (l.take j)++if p l[j]=true then[]else[l[j]]:=by
 unfold xf
 rw[List.take_succ_eq_append_getElem hj,List.filter_append]
 congr 1
 cases h:p l[j]<;>simp[h]
theorem Ub {p:ai->Bool} {l:List ai} (h:∀b∈l,p b=false):xf p l=l:=by
 unfold xf
 rw[List.filter_eq_self]
 intro b hb
 rw[h b hb];rfl
structure DlP (p:ai->Bool) (bs:List ai) (j:Nat) (R:List ai):Prop where
 len:R.length=bs.length
 pre:R.take (xf p (bs.take j)).length=xf p (bs.take j)
 post:∀x,j<=x->R[x]? =bs[x]?
 lt:(xf p (bs.take j)).length<j
def xe (p:aa->Bool) (l:List aa):List aa:=l.filter fun x=> !p x
theorem Ua {p:aa->Bool} {l:List aa} {j:Nat} (hj:j<l.length):xe p (l.take (j+1))=xe p (l.take j)++if p l[j]=true then[]else[l[j]]:=by
 unfold xe
 rw[List.take_succ_eq_append_getElem hj,List.filter_append]
 congr 1
 cases h:p l[j]<;>simp[h]
theorem T9 {p:aa->Bool} {l:List aa} (h:∀b∈l,p b=false):xe p l=l:=by
 unfold xe
 rw[List.filter_eq_self]
 intro b hb
 rw[h b hb];rfl
structure DlL (p:aa->Bool) (bs:List aa) (j:Nat) (R:List aa):Prop where
 len:R.length=bs.length
 pre:R.take (xe p (bs.take j)).length=xe p (bs.take j)
 post:∀x,j<=x->R[x]? =bs[x]?
 lt:(xe p (bs.take j)).length<j
def L8 (t:jy):Prop:=t.dW.length<=1048576
structure Ro (s:az):Prop where
 g:s.bh.length<=1048576
 t:s.aj.length<=1048576
 s:∀t∈s.aj,L8 t
structure sf (y:au):Prop where
 s:Ro y.aD
 a:y.bH.aj.length<=1048576
variable {P:Program}
def Iw {α:Type} (R:ON α) (z:Nat) (g:Rows) (a:AV) (xs:List α) (ids:List Id):Prop:=∃o rows is,a=.own o 0 xs.length/\g o=some ⟨true,z,rows⟩/\iw R g rows xs is/\ids=o::is
def Bb {α:Type} (e:α->List AV):ON α:=fun _ cs x ids=>cs=e x/\ids=[]
theorem Mz {α:Type} {e:α->List AV} {z:Nat} (hz:∀x,(e x).length=z) (hc:∀x,(e x).all AV.cell=true) (hs:z<xE):D9 (Bb e) z where
 frame:=fun h _=>h
 len:=fun h=>by rw[h.1];exact hz _
 cell:=fun h=>by rw[h.1];exact hc _
 live:=fun h i hi=>by rw[h.2]at hi;cases hi
 small:=hs
def L7:ON jy:=fun g cs t ids=>∃i,cs=[.str t.cZ,.own i 0 t.dW.length]/\g i=some ⟨true,1,t.dW.map aM⟩/\ids=[i]
theorem tileOk:D9 L7 2 where
 frame:=fun⟨i,h1,h2,h3⟩ hf=>⟨i,h1,(hf i (by rw[h3];simp)).trans h2,h3⟩
 len:=fun⟨i,h1,_⟩=>by rw[h1];rfl
 cell:=fun⟨i,h1,_⟩=>by rw[h1];rfl
 live:=fun⟨i,h1,h2,h3⟩ j hj=>by
  rw[h3]at hj
  have:j=i:=by simpa using hj
  subst this
  exact⟨_,h2,rfl,by simp[xE]⟩
 small:=by simp[xE]
theorem Zq {g:Rows} {cs:List AV} {t:jy} {ids:List Id} (n:Nat) (h:L7 g cs t ids):eI (eD g) (n+2) cs=some (dx t):=by
 obtain⟨i,rfl,h2,_⟩:=h
 have h3:V.fz (eD g) (n+2) (.own i 0 t.dW.length)=some (.sl (t.dW.map aM)):=jT (e:=aM) (sz:=1) (by simp[eD,h2]) rfl fun x=>by simp[aM,aq,ar,aV]
 simp only[aq,ar,bV,h3,Option.map_some,dx]
end
theorem flatG:D9 (Bb dZ) 2:=Mz (fun _=>rfl) (fun _=>rfl) (by simp[xE])
theorem flatP:D9 (Bb ab) 3:=Mz (fun _=>rfl) (fun _=>rfl) (by simp[xE])
def AsmO (g:Rows) (v:AV) (a:sJ) (ids:List Id):Prop:=∃x,v=.agg [x]/\Iw (Bb ab) 3 g x a.aj ids
structure SysO (g:Rows) (v:AV) (s:au) (ids:List Id):Prop where
 ex:∃a b c i1 i2 i3,v=.agg [a,b,c,.int .i64 s.aE]/\Iw (Bb dZ) 2 g a s.aD.bh i1/\Iw L7 2 g b s.aD.aj i2/\Iw (Bb ab) 3 g c s.bH.aj i3/\ids=i1++(i2++i3)
end Go.Proofs.YtainmfbpilopaaaGreatDoor.V

namespace Go.Proofs.YtainmfbpilopaaaGreatDoor
open Go.RowKit
def vQ (n:Nat):List UInt8:=if h:n=0 then[]else vQ (n / 10)++[UInt8.ofNat (48+n % 10)]
termination_by n
decreasing_by omega
theorem JZ:vQ 0=[]:=by unfold vQ;simp
theorem Mo {n:Nat} (h:n≠0):vQ n=vQ (n / 10)++[UInt8.ofNat (48+n % 10)]:=by
 conv=>lhs;unfold vQ
 rw[dif_neg h]
theorem JS (c:UInt8) (l:ByteArray):((⟨#[c]⟩++l:ByteArray)).data.toList=c::l.data.toList:=by
 simp[ByteArray.data_append]
theorem yJ:∀(m n:Nat),n<10 ^ m->(vQ n).length<=m
 |0,n,h=>by
  have:n=0:=by simpa using h
  subst this;simp[vQ]
 |m+1,n,h=>by
  unfold vQ
  split
  ·simp
  ·have:=yJ m (n / 10) (by rw[Nat.pow_succ]at h;omega)
   simp;omega
end Go.Proofs.YtainmfbpilopaaaGreatDoor

namespace Go.Proofs.YtainmfbpilopaaaGreatDoor.V
open Go.RowKit
attribute [local irreducible] ea wpOps fB Call
def But (σ:ax) (ids:List Id) (g:Rows) (n:Nat):Prop:=σ.next<=n/\∀x:Id,x.bq<σ.next->x∉ids->g x=σ.get x
theorem QK {P:Program} {w:World} {D:Nat->Prop} {ι:Names} {k:Int} {vs:Array Value} (h:fY P w D ι [.int .i64 k] vs):vs= #[.int .i64 k]:=by
 obtain⟨h1,h2⟩:=h
 obtain⟨u,hu,hr⟩:=h2 0 _ rfl
 rw[eb hr]at hu
 obtain⟨l⟩:=vs
 cases l with
 |nil=>simp at h1
 |cons a l=>cases l with
  |nil=>simp at hu;subst hu;rfl
  |cons b l=>simp at h1
end Go.Proofs.YtainmfbpilopaaaGreatDoor.V

namespace Go.Proofs.YtainmfbpilopaaaGreatDoor.V
open Go.RowKit
attribute [local irreducible] ea wpOps fB Call
attribute [local go_sem] aL fq eB fC fA dj upd cj K.av cH AV.cells AV.cell rowOf rowsOf part ld rowAt fQ bI bY dp dI fU bJ cY dS fu eP dh dL cW cV dy dz bP aW cK bL cP cL dF dM dK cJ bU cX dJ bK aJ cR cu fS br cF bQ aU de bd dv AV.undef bt bF dD dH dr dq cD dR dU cq dQ dP cQ cU List.getD_cons_zero List.getD_cons_succ List.getD_nil List.all_cons List.all_nil Bool.and_true Bool.true_and Bool.and_self Bool.not_true Bool.not_false Option.map_some Option.map_none Option.bind_some Option.bind_none List.length_cons List.length_nil List.take_succ_cons List.take_zero List.take_nil List.drop_succ_cons List.drop_zero List.drop_nil List.head?_cons List.map_cons List.map_nil List.getElem?_cons_zero List.getElem?_cons_succ List.cons_append List.nil_append List.append_nil List.length_map List.set_cons_zero List.set_cons_succ eq_self Int.toNat_natCast Int.natCast_nonneg and_self true_and and_true decide_true decide_false Bool.false_eq_true Nat.zero_add Nat.add_zero List.contains_cons List.contains_nil Bool.or_false Bool.false_or beq_self_eq_true ne_eq not_true_eq_false not_false_eq_true Id.mk.injEq false_and and_false Nat.le_refl List.length_append beq_true beq_false Bool.not_eq_eq_eq_not or_false false_or eD aq ar aV aX bV cz aQ bp aP aZ cI bz
section
variable {P:Program} {α:Type} {e:α->List AV} {z:Nat} {g g':Rows} {v:AV} {L:List α} {ids:List Id}
def Wh (e:α->List AV) (z:Nat) (g:Rows) (v:AV) (L:List α) (ids:List Id):Prop:=(L=[]/\v=.bj/\ids=[])∨∃o,v=.own o 0 L.length/\g o=some ⟨true,z,L.map e⟩/\ids=[o]/\0<L.length
def AY (e:α->List AV) (L:List α):AV:=if L.length=0 then .bj else .sl (L.map e)
def LikeN (e:α->List AV) (L:List α) (w:AV):Prop:=(w=.bj/\L=[])∨w=.sl (L.map e)
def GM (P:Program) (f:Nat) (args:List AV) (e:α->List AV) (z:Nat) (L:List α) (c:Int):Prop:=
 ∀n:Nat,Call P f args ⟨fun _=>none,n⟩ (fun r σ'=>∃v ids,r=.fP [v,.int .i64 c]/\Wh e z σ'.get v L ids/\LZ n σ'.next ids)
theorem A7 (hm:P.follows .mixedOrders=true) {f:Nat} {args:List AV} {σ:ax} {K:AV->ax->Prop} (h:Call P f args σ K):Call P f args σ (fun r σ'=>K r σ'/\σ.next<=σ'.next):=
 fG fun hs D ι w vs S U A=>(iP hm h hs D ι w vs S U A).mono (by
  rintro e w' ⟨r,g',n',D2,ι1,u,rfl,hK,T,S1,U1,hn,hR⟩
  exact⟨r,g',n',D2,ι1,u,rfl,⟨hK,hn⟩,T,S1,U1,hn,hR⟩)
theorem GM.s {f:Nat} {args:List AV} {c:Int} (he:∀x g,eY g 4 (e x)=some (e x)) (h:GM P f args e z L c):aw P f args (.fP [AY e L,.int .i64 c]):=fun n=>
 ay _ _ _ _ _ (fun r σ' hq=>by
  obtain⟨v,ids,rfl,ho,hi⟩:=hq
  rcases ho with⟨rfl,rfl,_⟩|⟨o,rfl,h2,_,hp⟩
  ·exact⟨_,by simp only[fo,bx,cw,jH,ej,Option.map_some];rfl,rfl⟩
  ·have:=eT (e:=e) (n:=4) h2 rfl fun x=>he x _
   exact⟨_,by simp only[fo,bx,cw,this,ej,Option.map_some];rfl,by rw[AY,if_neg ae]⟩) (h n)
end
end Go.Proofs.YtainmfbpilopaaaGreatDoor.V

namespace Go.Proofs.YtainmfbpilopaaaGreatDoor.V
open Go.RowKit
attribute [local irreducible] ea wpOps fB Call
theorem Rx (g:Rows) (n:Nat) (x:aa):eY g (n+1) (ab x)=some (ab x):=by simp[ab,bx,cw,ej]
def Sq (n:Nat) (L:List aa) (r:AV) (σ':ax):Prop:=∃o:Id,r=.agg [.own o 0 L.length]/\σ'.get o=some ⟨true,3,L.map ab⟩/\n<=o.bq/\o.bq<σ'.next
theorem Sq.val {f:Nat} {args args':List AV} {L:List aa} {σ:ax} (h:∀n,Call Tryz.prog f args' ⟨fun _=>none,n⟩ (Sq n L)) (hv:eI (eD σ.get) 6 args=some args'):Call Tryz.prog f args σ (fun r σ'=>Sq σ.next L r σ'/\Kept σ σ'):=by
 refine D8 mixed hv (ay _ _ _ _ _ (fun r σ' hq=>?_) (A7 mixed (h σ.next)))
 obtain⟨⟨o,rfl,h2,h3,h4⟩,hn⟩:=hq
 refine⟨[o],rfl,fun i hi=>?_,⟨o,rfl,(uU (by simp)).trans h2,h3,h4⟩,hn,fun j hj=>om fun hc=>?_⟩
 ·rw[List.mem_singleton.1 hi]
  exact⟨_,h2,rfl,fun cs ek a ha=>by
   obtain⟨x,_,rfl⟩:=List.mem_map.1 ek
   simp[ab]at ha
   rcases ha with rfl|rfl|rfl<;>rfl⟩
 ·rw[List.mem_singleton.1 hc]at hj;omega
theorem Ns (l:List aa) (hl:l.length<=1048576) (n0:Nat):Call Tryz.prog 141 [.ef [.sl (l.map ab)]] ⟨fun _=>none,n0⟩ (Sq n0 l):=by
 refine eZ fx rfl fun fD=>?_
 clear fD
 have DV:(l.map ab).length<=16777216:=by simp;omega
 have eJ:(l.map ab).all (fun c=>c.length==3&&c.all AV.cell)=true:=all_map fun x=>⟨rfl,rfl⟩
 have RJ:(l.map ab).length=l.length:=by simp
 generalize kQ:l.map ab=rows at DV eJ RJ
 (try((repeat(revert N;apply Pn.out));refine wk (tw @DV @eJ) ?_;(repeat(apply Pn.mk;intro N hN))))
 exact eo (.inl rfl) (vs:=[.agg [.own ⟨141001005,n0+1⟩ 0 rows.length]]) (sd @Nat.zero_add) ⟨⟨141001005,n0+1⟩,by rw[RJ];rfl,by rw[kQ];simp only[go_sem, ↓reduceIte,Nat.reduceEqDiff,Nat.reduceAdd,Nat.reduceSub,Nat.reduceLeDiff,reduceCtorEq],aH,aH⟩
def xx (q:aa) (l:List aa):Bool:=l.any fun x=>ju q.aI x.aI
theorem F1 {q:aa}:∀{l:List aa},xx q l=false->gn l q=l++[q]
 |[],_=>rfl
 |x::l,h=>by
  unfold xx at h
  rw[List.any_cons,Bool.or_eq_false_iff]at h
  rw[gn,if_neg (by rw[h.1];simp),F1 h.2];rfl
theorem B7 {q y:aa}:∀{l:List aa},xx q l=true->gn (l++[y]) q=gn l q++[y]
 |x::l,h=>by
  unfold xx at h
  rw[List.any_cons]at h
  rw[List.cons_append,gn,gn]
  cases hx:ju q.aI x.aI
  ·rw[hx,Bool.false_or]at h
   rw[if_neg (by simp),if_neg (by simp),B7 h];rfl
  ·simp
theorem B5 {q y:aa}:∀{l:List aa},xx q l=false->ju q.aI y.aI=true->gn (l++[y]) q=l++[q]++[y]
 |[],_,hy=>by simp[gn,hy]
 |x::l,h,hy=>by
  unfold xx at h
  rw[List.any_cons,Bool.or_eq_false_iff]at h
  rw[List.cons_append,gn,if_neg (by rw[h.1];simp),B5 h.2 hy];rfl
def jX (q:aa) (l:List aa):List aa:=if xx q l=true then gn l q else l
theorem yK (q:aa) (l:List aa) (y:aa):xx q (l++[y])=(xx q l||ju q.aI y.aI):=by simp[xx]
theorem KX (q:aa) (l:List aa):(jX q l).length<=l.length+1:=by
 unfold jX
 split
 ·rw[kn];omega
 ·omega
theorem NP {q y:aa} {l:List aa} (h:xx q l=true∨ju q.aI y.aI=false):jX q (l++[y])=jX q l++[y]:=by
 unfold jX
 rw[yK]
 cases hd:xx q l
 ·rw[hd]at h
  have h2:ju q.aI y.aI=false:=by rcases h with h|h;cases h;exact h
  simp[h2]
 ·simp[B7 hd]
theorem NO {q y:aa} {l:List aa} (h:xx q l=false) (hy:ju q.aI y.aI=true):jX q (l++[y])=jX q l++[q]++[y]:=by
 unfold jX
 rw[yK,h,hy]
 simp[B5 h hy]
def Zz (m:Nat) (L:List aa) (v:AV) (g:Rows) (n:Nat):Prop:=(L=[]/\v=.bj)∨∃o:Id,v=.own o 0 L.length/\g o=some ⟨true,3,L.map ab⟩/\m<=o.bq/\o.bq<n
theorem uV {l:List aa} {k:Nat} (hk:k<l.length):l.take (k+1)=l.take k++[aA l k]:=by rw[List.take_succ_eq_append_getElem hk,ez hk]
theorem zr (L:List aa) (q:aa):(L++[q]).map ab=L.map ab++[[.int .i64 q.aI.eV,.int .i64 q.aI.eQ,.int .i64 q.aY]]:=by rw[List.map_append];rfl
theorem lH (L:List aa) (q:aa):(L++[q]).length=L.length+1:=by rw[List.length_append];rfl
theorem Nt (l:List aa) (hl:l.length<=1048576) (p:ai) (t:Int) (n0:Nat):Call Tryz.prog 197 [.ef [.sl (l.map ab)],.agg (ad p),.int .i64 t] ⟨fun _=>none,n0⟩ (Sq n0 (gn l ⟨p,t⟩)):=by
 refine eZ fx rfl fun fD=>?_
 clear fD
 obtain⟨q,hq⟩:∃q:aa,q=⟨p,t⟩:=⟨_,rfl⟩
 (try((repeat(revert N;apply Pn.out));refine wk @ad.eq_1 ?_;(repeat(apply Pn.mk;intro N hN))))
 refine cm (fun n env st=>∃i:Nat,n=(l.length)-i/\i<=(l.length)/\env 9=.int .i64 (i:Int)/\env 8=.bool (xx q (l.take i))/\st.get ⟨197000000,n0⟩=some ⟨true,2,[ad p]⟩/\st.get ⟨197000001,n0⟩=some ⟨true,1,[[.bj]]⟩/\(n0+2<=st.next/\∃v,st.get ⟨197001001,n0+1⟩=some ⟨true,1,[[v]]⟩/\Zz (n0+2) (jX q (l.take i)) v st.get st.next)) (l.length) ⟨0,ae,ae,sl @ad.eq_1,sl @ad.eq_1,sl @ad.eq_1,sl @ad.eq_1,by(try dsimp only);exact⟨ae,.bj,sd @Nat.zero_add,.inl ⟨rfl,rfl⟩⟩⟩ ?_
 rintro n_a env_a st_a ⟨i,rfl,ale,a9,a8,ag0,ag1,qN⟩ eF
 have a0:=eF 0 (by kernel_rfl);have a2:=eF 2 (by kernel_rfl);have a4:=eF 4 (by kernel_rfl);have a6:=eF 6 (by kernel_rfl);have a7:=eF 7 (by kernel_rfl)
 simp only[go_sem, ↓reduceIte,Nat.reduceEqDiff,Nat.reduceAdd,Nat.reduceSub,Nat.reduceLeDiff,reduceCtorEq,ad]at a0 a2 a4 a6 a7
 clear eF
 obtain⟨an,v,av,aG⟩:=qN
 have vA:=bZ (i:=⟨197000000,n0⟩) (n:=st_a.next) aH
 have vB:=bZ (i:=⟨197000001,n0⟩) (n:=st_a.next) aH
 have vC:=bZ (i:=⟨197001001,n0+1⟩) (n:=st_a.next) aH
 have M4:=KX q (l.take i)
 rw[List.length_take]at M4
 by_cases hi:(i:Int)<(l.length:Int)
 ·have eh:∀{e:Env} {gg:Rows} {nx:Nat},(e 9=.int .i64 (IntKind.i64.wrap ((i:Int)+1)))->(e 8=.bool (xx q (l.take (i+1))))->(gg ⟨197000000,n0⟩=some ⟨true,2,[ad p]⟩)->(gg ⟨197000001,n0⟩=some ⟨true,1,[[.bj]]⟩)->(n0+2<=nx/\∃v,gg ⟨197001001,n0+1⟩=some ⟨true,1,[[v]]⟩/\Zz (n0+2) (jX q (l.take (i+1))) v gg nx)->∃m0,m0<(l.length)-i/\∃i:Nat,m0=(l.length)-i/\i<=(l.length)/\e 9=.int .i64 (i:Int)/\e 8=.bool (xx q (l.take i))/\gg ⟨197000000,n0⟩=some ⟨true,2,[ad p]⟩/\gg ⟨197000001,n0⟩=some ⟨true,1,[[.bj]]⟩/\(n0+2<=nx/\∃v,gg ⟨197001001,n0+1⟩=some ⟨true,1,[[v]]⟩/\Zz (n0+2) (jX q (l.take i)) v gg nx):=fun x1 x2 x3 x4 x5=>⟨_,ae,i+1,rfl,ae,(by rw[x1,bf ae]),x2,x3,x4,x5⟩
  have gV:i<l.length:=ae
  have jt:=fM gV
  have eG:=mW p (aA l i).aI
  have oN:=uV gV
  have hqa:ju q.aI (aA l i).aI=ju p (aA l i).aI:=by rw[hq]
  have fc:(l.map ab).length=l.length:=by simp
  have VR:=yK q (l.take i) (aA l i)
  rw[<-oN,hqa]at VR
  rw[ad,ad]at eG
  by_cases hc:xx q (l.take i)=true∨ju p (aA l i).aI=false
  ·have pz:=NP (q:=q) (y:=aA l i) (l:=l.take i) (by rw[hqa];exact hc)
   rw[<-oN]at pz
   generalize jX q (l.take i)=L at aG pz M4
   have qY:=lH L (aA l i)
   have ly:=zr L (aA l i)
   have tc:xx q (l.take (i+1))=xx q (l.take i):=by
    rw[VR]
    rcases hc with h|h<;>rw[h]<;>simp
   rcases aG with⟨hL,rfl⟩|⟨o,rfl,ao,Rr,Ly⟩
   ·subst hL
    cases hd:xx q (l.take i)
    ·have h2:ju p (aA l i).aI=false:=by rcases hc with h|h;rw[hd]at h;cases h;exact h
     rw[h2]at eG
     rw[hd]at a8 tc
     (have zF:=tw @a9 (tw @a8 (tw @ag0 (tw @ag1 (tw @a0 (tw @a2 (tw @a4 (tw @a6 (tw @a7 (tw @hi (tw @jt (tw @vA (tw @vB (tw @vC (tw @av (tw @fc (tw @ad.eq_1 @ab.eq_1))))))))))))))));(repeat(first|((repeat(revert N;apply Pn.out));refine wk zF ?_;(repeat(apply Pn.mk;intro N hN)))|((try apply Or.inl);refine⟨_,aw.x (eG) (sd zF),?_⟩;apply hN;clear hN N)));try clear zF)
     refine eh ?_ ?_ ?_ ?_ (by(try dsimp only);exact⟨ae,_,sl @Nat.zero_add,.inr ⟨⟨197009010,st_a.next+1+1⟩,by rw[pz,qY]<;>(simp only[go_sem, ↓reduceIte,Nat.reduceEqDiff,Nat.reduceAdd,Nat.reduceSub,Nat.reduceLeDiff,reduceCtorEq]<;>rfl),by rw[pz,ly]<;>(simp only[go_sem, ↓reduceIte,Nat.reduceEqDiff,Nat.reduceAdd,Nat.reduceSub,Nat.reduceLeDiff,reduceCtorEq]<;>rfl),aH,aH⟩⟩)
     all_goals simp only[go_sem, ↓reduceIte,Nat.reduceEqDiff,Nat.reduceAdd,Nat.reduceSub,Nat.reduceLeDiff,reduceCtorEq,a9,a8,ag0,ag1,a0,a2,a4,a6,a7,tc,vA,vB,vC,ad]
    ·rw[hd]at a8 tc
     (try((repeat(revert N;apply Pn.out));refine wk (tw @a9 (tw @a8 (tw @ag0 (tw @ag1 (tw @a0 (tw @a2 (tw @a4 (tw @a6 (tw @a7 (tw @hi (tw @jt (tw @vA (tw @vB (tw @vC (tw @av (tw @fc (tw @ad.eq_1 @ab.eq_1))))))))))))))))) ?_;(repeat(apply Pn.mk;intro N hN))))
     refine eh ?_ ?_ ?_ ?_ (by(try dsimp only);exact⟨ae,_,sl @Nat.zero_add,.inr ⟨⟨197009010,st_a.next+1+1⟩,by rw[pz,qY]<;>(simp only[go_sem, ↓reduceIte,Nat.reduceEqDiff,Nat.reduceAdd,Nat.reduceSub,Nat.reduceLeDiff,reduceCtorEq]<;>rfl),by rw[pz,ly]<;>(simp only[go_sem, ↓reduceIte,Nat.reduceEqDiff,Nat.reduceAdd,Nat.reduceSub,Nat.reduceLeDiff,reduceCtorEq]<;>rfl),aH,aH⟩⟩)
     all_goals simp only[go_sem, ↓reduceIte,Nat.reduceEqDiff,Nat.reduceAdd,Nat.reduceSub,Nat.reduceLeDiff,reduceCtorEq,a9,a8,ag0,ag1,a0,a2,a4,a6,a7,tc,vA,vB,vC,ad]
   ·have vo:=bZ Ly
    have oA:=ei (a:=⟨197000000,n0⟩) (b:=o) aH
    have oB:=ei (a:=⟨197000001,n0⟩) (b:=o) aH
    have oC:=ei (a:=⟨197001001,n0+1⟩) (b:=o) aH
    have RB:(L.map ab).length=L.length:=by simp
    have kD:L.length<=16777215:=ae
    cases hd:xx q (l.take i)
    ·have h2:ju p (aA l i).aI=false:=by rcases hc with h|h;rw[hd]at h;cases h;exact h
     rw[h2]at eG
     rw[hd]at a8 tc
     (have zF:=tw @a9 (tw @a8 (tw @ag0 (tw @ag1 (tw @a0 (tw @a2 (tw @a4 (tw @a6 (tw @a7 (tw @hi (tw @jt (tw @vA (tw @vB (tw @vC (tw @vo (tw @oA (tw @oB (tw @oC (tw @ao (tw @av (tw @fc (tw @RB (tw @kD (tw @ad.eq_1 @ab.eq_1)))))))))))))))))))))));(repeat(first|((repeat(revert N;apply Pn.out));refine wk zF ?_;(repeat(apply Pn.mk;intro N hN)))|((try apply Or.inl);refine⟨_,aw.x (eG) (sd zF),?_⟩;apply hN;clear hN N)));try clear zF)
     refine eh ?_ ?_ ?_ ?_ (by(try dsimp only);exact⟨ae,_,sl @Nat.zero_add,.inr ⟨⟨197009010,st_a.next+1+1⟩,by rw[pz,qY]<;>(simp only[go_sem, ↓reduceIte,Nat.reduceEqDiff,Nat.reduceAdd,Nat.reduceSub,Nat.reduceLeDiff,reduceCtorEq]<;>rfl),by rw[pz,ly]<;>(simp only[go_sem, ↓reduceIte,Nat.reduceEqDiff,Nat.reduceAdd,Nat.reduceSub,Nat.reduceLeDiff,reduceCtorEq]<;>rfl),aH,aH⟩⟩)
     all_goals simp only[go_sem, ↓reduceIte,Nat.reduceEqDiff,Nat.reduceAdd,Nat.reduceSub,Nat.reduceLeDiff,reduceCtorEq,a9,a8,ag0,ag1,a0,a2,a4,a6,a7,tc,vA,vB,vC,oA,oB,oC,ad]
    ·rw[hd]at a8 tc
     (try((repeat(revert N;apply Pn.out));refine wk (tw @a9 (tw @a8 (tw @ag0 (tw @ag1 (tw @a0 (tw @a2 (tw @a4 (tw @a6 (tw @a7 (tw @hi (tw @jt (tw @vA (tw @vB (tw @vC (tw @vo (tw @oA (tw @oB (tw @oC (tw @ao (tw @av (tw @fc (tw @RB (tw @kD (tw @ad.eq_1 @ab.eq_1)))))))))))))))))))))))) ?_;(repeat(apply Pn.mk;intro N hN))))
     refine eh ?_ ?_ ?_ ?_ (by(try dsimp only);exact⟨ae,_,sl @Nat.zero_add,.inr ⟨⟨197009010,st_a.next+1+1⟩,by rw[pz,qY]<;>(simp only[go_sem, ↓reduceIte,Nat.reduceEqDiff,Nat.reduceAdd,Nat.reduceSub,Nat.reduceLeDiff,reduceCtorEq]<;>rfl),by rw[pz,ly]<;>(simp only[go_sem, ↓reduceIte,Nat.reduceEqDiff,Nat.reduceAdd,Nat.reduceSub,Nat.reduceLeDiff,reduceCtorEq]<;>rfl),aH,aH⟩⟩)
     all_goals simp only[go_sem, ↓reduceIte,Nat.reduceEqDiff,Nat.reduceAdd,Nat.reduceSub,Nat.reduceLeDiff,reduceCtorEq,a9,a8,ag0,ag1,a0,a2,a4,a6,a7,tc,vA,vB,vC,oA,oB,oC,ad]
  ·have hd:xx q (l.take i)=false:=by
    cases h:xx q (l.take i)
    ·rfl
    ·exact absurd (.inl h) hc
   have h2:ju p (aA l i).aI=true:=by
    cases h:ju p (aA l i).aI
    ·exact absurd (.inr h) hc
    ·rfl
   have pz:=NO (q:=q) (y:=aA l i) hd (by rw[hqa];exact h2)
   rw[<-oN]at pz
   have tc:xx q (l.take (i+1))=true:=by rw[VR,h2];simp
   rw[hd]at a8
   rw[h2]at eG
   have Y5:ab q=[.int .i64 p.eV,.int .i64 p.eQ,.int .i64 t]:=by rw[hq];rfl
   generalize jX q (l.take i)=L at aG pz M4
   have qY:=lH (L++[q]) (aA l i)
   have ly:=zr (L++[q]) (aA l i)
   have hnl2:=lH L q
   have E9:(L++[q]).map ab=L.map ab++[[.int .i64 p.eV,.int .i64 p.eQ,.int .i64 t]]:=by rw[List.map_append,List.map_singleton,Y5]
   rw[hnl2]at qY
   rw[E9]at ly
   rcases aG with⟨hL,rfl⟩|⟨o,rfl,ao,Rr,Ly⟩
   ·subst hL
    (have zF:=tw @a9 (tw @a8 (tw @ag0 (tw @ag1 (tw @a0 (tw @a2 (tw @a4 (tw @a6 (tw @a7 (tw @hi (tw @jt (tw @vA (tw @vB (tw @vC (tw @av (tw @fc (tw @ad.eq_1 @ab.eq_1))))))))))))))));(repeat(first|((repeat(revert N;apply Pn.out));refine wk zF ?_;(repeat(apply Pn.mk;intro N hN)))|((try apply Or.inl);refine⟨_,aw.x (eG) (sd zF),?_⟩;apply hN;clear hN N)));try clear zF)
    refine eh ?_ ?_ ?_ ?_ (by(try dsimp only);exact⟨ae,_,sl @Nat.zero_add,.inr ⟨⟨197009010,st_a.next+1+1+1+1⟩,by rw[pz,qY]<;>(simp only[go_sem, ↓reduceIte,Nat.reduceEqDiff,Nat.reduceAdd,Nat.reduceSub,Nat.reduceLeDiff,reduceCtorEq]<;>rfl),by rw[pz,ly]<;>(simp only[go_sem, ↓reduceIte,Nat.reduceEqDiff,Nat.reduceAdd,Nat.reduceSub,Nat.reduceLeDiff,reduceCtorEq]<;>rfl),aH,aH⟩⟩)
    all_goals simp only[go_sem, ↓reduceIte,Nat.reduceEqDiff,Nat.reduceAdd,Nat.reduceSub,Nat.reduceLeDiff,reduceCtorEq,a9,a8,ag0,ag1,a0,a2,a4,a6,a7,tc,vA,vB,vC,ad]
   ·have vo:=bZ Ly
    have oA:=ei (a:=⟨197000000,n0⟩) (b:=o) aH
    have oB:=ei (a:=⟨197000001,n0⟩) (b:=o) aH
    have oC:=ei (a:=⟨197001001,n0+1⟩) (b:=o) aH
    have RB:(L.map ab).length=L.length:=by simp
    have kD:L.length<=16777214:=ae
    have WL:L.length<=16777215:=ae
    (have zF:=tw @a9 (tw @a8 (tw @ag0 (tw @ag1 (tw @a0 (tw @a2 (tw @a4 (tw @a6 (tw @a7 (tw @hi (tw @jt (tw @vA (tw @vB (tw @vC (tw @vo (tw @oA (tw @oB (tw @oC (tw @ao (tw @av (tw @fc (tw @RB (tw @kD (tw @WL (tw @ad.eq_1 @ab.eq_1))))))))))))))))))))))));(repeat(first|((repeat(revert N;apply Pn.out));refine wk zF ?_;(repeat(apply Pn.mk;intro N hN)))|((try apply Or.inl);refine⟨_,aw.x (eG) (sd zF),?_⟩;apply hN;clear hN N)));try clear zF)
    refine eh ?_ ?_ ?_ ?_ (by(try dsimp only);exact⟨ae,_,sl @Nat.zero_add,.inr ⟨⟨197009010,st_a.next+1+1+1+1⟩,by rw[pz,qY]<;>(simp only[go_sem, ↓reduceIte,Nat.reduceEqDiff,Nat.reduceAdd,Nat.reduceSub,Nat.reduceLeDiff,reduceCtorEq]<;>rfl),by rw[pz,ly]<;>(simp only[go_sem, ↓reduceIte,Nat.reduceEqDiff,Nat.reduceAdd,Nat.reduceSub,Nat.reduceLeDiff,reduceCtorEq]<;>rfl),aH,aH⟩⟩)
    all_goals simp only[go_sem, ↓reduceIte,Nat.reduceEqDiff,Nat.reduceAdd,Nat.reduceSub,Nat.reduceLeDiff,reduceCtorEq,a9,a8,ag0,ag1,a0,a2,a4,a6,a7,tc,vA,vB,vC,oA,oB,oC,ad]
 ·have nR:i=l.length:=ae
  subst nR
  rw[List.take_length]at a8 aG M4
  cases hd:xx q l
  ·rw[hd]at a8
   have pz:gn l ⟨p,t⟩=jX q l++[q]:=by rw[<-hq,F1 hd,jX,hd];simp
   have Y5:ab q=[.int .i64 p.eV,.int .i64 p.eQ,.int .i64 t]:=by rw[hq];rfl
   generalize jX q l=L at aG M4 pz
   have qY:=lH L q
   have ly:(L++[q]).map ab=L.map ab++[[.int .i64 p.eV,.int .i64 p.eQ,.int .i64 t]]:=by rw[List.map_append,List.map_singleton,Y5]
   rcases aG with⟨hL,rfl⟩|⟨o,rfl,ao,Rr,Ly⟩
   ·subst hL
    (try((repeat(revert N;apply Pn.out));refine wk (tw @a9 (tw @a8 (tw @ag0 (tw @ag1 (tw @a0 (tw @a2 (tw @a4 (tw @a6 (tw @a7 (tw @hi (tw @vA (tw @vB (tw @vC (tw @av (tw @ad.eq_1 @ab.eq_1))))))))))))))) ?_;(repeat(apply Pn.mk;intro N hN))))
    exact eo (.inl rfl) (vs:=[.agg [.own ⟨197011006,st_a.next+1+1⟩ 0 1]]) (sd (tw @a9 (tw @a8 (tw @ag0 (tw @ag1 (tw @a0 (tw @a2 (tw @a4 (tw @a6 (tw @a7 @vB)))))))))) ⟨⟨197011006,st_a.next+1+1⟩,by rw[pz];rfl,by rw[pz];simp only[go_sem, ↓reduceIte,Nat.reduceEqDiff,Nat.reduceAdd,Nat.reduceSub,Nat.reduceLeDiff,reduceCtorEq,vB];rw[Y5],aH,aH⟩
   ·have vo:=bZ Ly
    have oA:=ei (a:=⟨197000000,n0⟩) (b:=o) aH
    have oB:=ei (a:=⟨197000001,n0⟩) (b:=o) aH
    have oC:=ei (a:=⟨197001001,n0+1⟩) (b:=o) aH
    have RB:(L.map ab).length=L.length:=by simp
    have kD:L.length<=16777215:=ae
    (try((repeat(revert N;apply Pn.out));refine wk (tw @a9 (tw @a8 (tw @ag0 (tw @ag1 (tw @a0 (tw @a2 (tw @a4 (tw @a6 (tw @a7 (tw @hi (tw @vA (tw @vB (tw @vC (tw @vo (tw @oA (tw @oB (tw @oC (tw @ao (tw @av (tw @RB (tw @kD (tw @ad.eq_1 @ab.eq_1)))))))))))))))))))))) ?_;(repeat(apply Pn.mk;intro N hN))))
    exact eo (.inl rfl) (vs:=[.agg [.own ⟨197011006,st_a.next+1+1⟩ 0 (L.length+1)]]) (sd (tw @a9 (tw @a8 (tw @ag0 (tw @ag1 (tw @a0 (tw @a2 (tw @a4 (tw @a6 (tw @a7 @vB)))))))))) ⟨⟨197011006,st_a.next+1+1⟩,by rw[pz,qY];rfl,by rw[pz,ly];simp only[go_sem, ↓reduceIte,Nat.reduceEqDiff,Nat.reduceAdd,Nat.reduceSub,Nat.reduceLeDiff,reduceCtorEq,vB],aH,aH⟩
  ·rw[hd]at a8
   have pz:gn l ⟨p,t⟩=jX q l:=by rw[<-hq,jX,hd];simp
   have kH:0<(jX q l).length:=by rw[<-pz,kn];omega
   generalize jX q l=L at aG M4 kH pz
   rcases aG with⟨hL,rfl⟩|⟨o,rfl,ao,Rr,Ly⟩
   ·subst hL;cases kH
   ·have vo:=bZ Ly
    have oB:=ei (a:=⟨197000001,n0⟩) (b:=o) aH
    (try((repeat(revert N;apply Pn.out));refine wk (tw @a9 (tw @a8 (tw @ag0 (tw @ag1 (tw @a0 (tw @a2 (tw @a4 (tw @a6 (tw @a7 (tw @hi (tw @vA (tw @vB (tw @vC (tw @vo (tw @ao (tw @av (tw @ad.eq_1 @ab.eq_1))))))))))))))))) ?_;(repeat(apply Pn.mk;intro N hN))))
    exact eo (.inl rfl) (vs:=[.agg [.own o 0 L.length]]) (sd (tw @a9 (tw @a8 (tw @ag0 (tw @ag1 (tw @a0 (tw @a2 (tw @a4 (tw @a6 (tw @a7 @vB)))))))))) ⟨o,by rw[pz];rfl,by rw[pz];simp only[go_sem, ↓reduceIte,Nat.reduceEqDiff,Nat.reduceAdd,Nat.reduceSub,Nat.reduceLeDiff,reduceCtorEq,vB,oB,ao],aH,aH⟩
def MkT (n:Nat) (L:List aa) (r:AV) (σ':ax):Prop:=∃(o:Id) (J:List aa),r=.agg [.own o 0 L.length]/\σ'.get o=some ⟨true,3,(L++J).map ab⟩/\n<=o.bq/\o.bq<σ'.next
theorem Jk {g:Rows} {X o:Id} {L:List aa} (hX:g X=some ⟨true,1,[[.own o 0 L.length]]⟩) (ho:g o=some ⟨true,3,L.map ab⟩):fz (eD g) 6 (.ptr X 0 0)=some (.ef [.sl (L.map ab)]):=by
 have h1:fz (eD g) 5 (.own o 0 L.length)=some (.sl (L.map ab)):=jT (e:=ab) (sz:=3) (by simp[eD,ho]) rfl fun x=>by simp[ab,aq,ar,aV]
 exact s5 (n:=5) (sz:=1) (rows:=[[.own o 0 L.length]]) (cs:=[.own o 0 L.length]) (by simp[eD,hX]) rfl (by simp[aq,ar,h1])
def InL (X:Id) (st:iJ) (e7:AV) (g:Rows) (n:Nat):Prop:=∃o u:Id,g X=some ⟨true,1,[[.own o 0 st.2.length]]⟩/\g o=some ⟨true,3,st.2.map ab⟩/\e7=.own u 0 st.1.length/\g u=some ⟨true,3,st.1.map ab⟩/\o.bq<u.bq/\X.bq<u.bq/\u.bq<n/\o≠X
theorem Fq {s:au} {st:iJ} {x:aa} (h:ee s st.2 x.aI x.aY=true):fy s st x=(st.1++[x],gn st.2 x):=if_pos h
theorem HB {s:au} {st:iJ} {x:aa} (h:ee s st.2 x.aI x.aY=false):fy s st x=st:=if_neg (by rw[h];simp)
def AsI (σ:ax) (T:Id) (ts:List aa) (pre:List (List AV)) (e0:Env) (s0:ax):Prop:=
 ∃l':List aa,pre=l'.map ab/\((l'=[]/\e0 3=.bj)∨∃o:Id,e0 3=.own o 0 l'.length/\s0.get o=some ⟨true,3,l'.map ab⟩/\σ.next<o.bq/\o.bq<s0.next)/\σ.next<s0.next/\(∀x:Id,x.bq<σ.next->x≠T->s0.get x=σ.get x)/\s0.get T=some ⟨false,mP.j4,ts.map ab⟩/\s0.get ⟨97000000,σ.next⟩=some ⟨true,1,[[.bj]]⟩/\e0 2=.ptr ⟨97000000,σ.next⟩ 0 0
theorem KP (L:List aa) (x:aa):(L++[x]).length=L.length+1:=by rw[List.length_append];rfl
theorem sM {σ:ax} {c T O:Id} {s:au} {ts L:List aa} (h:jx σ.get σ.next c T O s ts) (hlen:ts.length<=100000) (h0:ts≠[]) (hR:jk L) (hp:ts.Perm L):
  Call Tryz.prog 97 [.ptr c 0 0] σ (fun r σ'=>∃o:Id,r=.agg [.own o 0 L.length]/\σ'.get o=some ⟨true,3,L.map ab⟩/\σ.next<=o.bq/\o.bq<σ'.next/\σ.next<=σ'.next/\∀x:Id,x.bq<σ.next->x≠T->σ'.get x=σ.get x):=by
 refine X4 rfl mP ?_
 have fE:=h.row
 have GB:=h.tl
 have v1:=bZ h.cv
 have v2:=bZ h.tv
 unfold Ur
 rw[Ov]
 (try((repeat(revert N;apply Pn.out));refine wk (tw @fE @v1) ?_;(repeat(apply Pn.mk;intro N hN))))
 refine Gp (Yg (id:=T) (r:=⟨true,mP.j4,ts.map ab⟩) (AsI σ T ts) (sd @Oq.eq_1) (sd (tw @GB @v2)) rfl (by decide) ?_ ?_ ?_)
 ·have vT:(T=(⟨97000000,σ.next⟩:Id))=False:=eq_false fun e=>by have:=h.tv;rw[e]at this;(try dsimp only at this);omega
  have vT2:((⟨97000000,σ.next⟩:Id)=T)=False:=eq_false fun e=>by have:=h.tv;rw[<-e]at this;(try dsimp only at this);omega
  exact⟨[],rfl,.inl ⟨rfl,sd @Nat.zero_add⟩,aH,fun x hx hT=>by
   have h1:=bZ hx
   have h2:=eq_false hT
   simp only[go_sem, ↓reduceIte,Nat.reduceEqDiff,Nat.reduceAdd,Nat.reduceSub,Nat.reduceLeDiff,reduceCtorEq,h1,h2],sd @Nat.zero_add,sd @vT2,sd @Nat.zero_add⟩
 ·rintro pre cs rest e0 s0 kv vv hpp ⟨l',rfl,hout,LK,iO,hT,h5,e2⟩ hK hpart hvv
  have rR:cs∈ts.map ab:=hpp.subset (by simp)
  obtain⟨tl,hx,rfl⟩:=List.mem_map.1 rR
  have RJ:=hpp.length_eq
  simp only[List.length_append,List.length_map,List.length_cons]at RJ
  simp[part,ab,MK.ks]at hpart hvv
  subst hpart hvv
  rw[Ju,Jv]
  have C1:=h.tv
  have vT:=bZ (i:=T) (n:=s0.next) ae
  have v5:=bZ (i:=⟨97000000,σ.next⟩) (n:=s0.next) aH
  clear hpp rR hK
  have RK:l'.map ab++[ab tl]=(l'++[tl]).map ab:=by simp
  have qY:=KP l' tl
  have ly:(l'++[tl]).map ab=l'.map ab++[[.int .i64 tl.aI.eV,.int .i64 tl.aI.eQ,.int .i64 tl.aY]]:=by rw[List.map_append];rfl
  rcases hout with⟨O9,e3⟩|⟨o,e3,og,on,ov⟩
  ·subst O9
   (try((repeat(revert N;apply Pn.out));refine wk (tw @e3 @e2) ?_;(repeat(apply Pn.mk;intro N hN))))
   exact⟨[]++[tl],RK,.inr ⟨⟨97005005,s0.next+1+1⟩,sl @Nat.zero_add,sl @Nat.zero_add,aH,aH⟩,aH,fun y hy TZ=>by
    have h1:=bZ (i:=y) (n:=s0.next) ae
    have h2:=iO y hy TZ
    simp only[go_sem, ↓reduceIte,Nat.reduceEqDiff,Nat.reduceAdd,Nat.reduceSub,Nat.reduceLeDiff,reduceCtorEq,h1,h2],sd (tw @vT @hT),sd (tw @v5 @h5),sd @e2⟩
  ·have vo:=bZ ov
   have oT:=ei (a:=T) (b:=o) ae
   have o5:=ei (a:=⟨97000000,σ.next⟩) (b:=o) aH
   have fc:(l'.map ab).length=l'.length:=by simp
   have e1:l'.length<=16777215:=ae
   (try((repeat(revert N;apply Pn.out));refine wk (tw @e3 (tw @e2 (tw @og (tw @vo (tw @fc @e1))))) ?_;(repeat(apply Pn.mk;intro N hN))))
   exact⟨l'++[tl],RK,.inr ⟨⟨97005005,s0.next+1+1⟩,by rw[qY];simp only[go_sem, ↓reduceIte,Nat.reduceEqDiff,Nat.reduceAdd,Nat.reduceSub,Nat.reduceLeDiff,reduceCtorEq]<;>rfl,by rw[ly];simp only[go_sem, ↓reduceIte,Nat.reduceEqDiff,Nat.reduceAdd,Nat.reduceSub,Nat.reduceLeDiff,reduceCtorEq]<;>rfl,aH,aH⟩,aH,fun y hy TZ=>by
    have h1:=bZ (i:=y) (n:=s0.next) ae
    have h2:=iO y hy TZ
    have h3:=ei (a:=y) (b:=o) ae
    simp only[go_sem, ↓reduceIte,Nat.reduceEqDiff,Nat.reduceAdd,Nat.reduceSub,Nat.reduceLeDiff,reduceCtorEq,h1,h2,h3],sd (tw @vT (tw @oT @hT)),sd (tw @v5 (tw @o5 @h5)),sd @e2⟩
 ·rintro pre e0 s0 hpp ⟨l',rfl,hout,LK,iO,hT,h5,e2⟩ hK
  clear hK
  have lU:l'.Perm ts:=by
   have:∀{a b:List aa},(a.map ab).Perm (b.map ab)->a.Perm b:=fun {a b} pM=>by
    have h2:=pM.map (fun cs:List AV=>match cs with|[.int _ x,.int _ y,.int _ t]=>(⟨⟨x,y⟩,t⟩:aa)|_=>default)
    simpa[List.map_map,Function.comp_def,ab]using h2
   exact this hpp
  have MZ:=lU.length_eq
  rcases hout with⟨O9,e3⟩|⟨o,e3,og,on,ov⟩
  ·exfalso
   subst O9
   exact h0 (List.eq_nil_of_length_eq_zero MZ.symm)
  have iI:l'≠[]:=fun e=>h0 (List.eq_nil_of_length_eq_zero (by rw[<-MZ,e];rfl))
  (try((repeat(revert N;apply Pn.out));refine wk (tw @Jw.eq_1 (tw @Jz.eq_1 (tw @e3 @e2))) ?_;(repeat(apply Pn.mk;intro N hN))))
  refine .inr (ay _ _ _ _ _ (fun r σ1 hq=>?_) (Cs l' L ae iI hR (lU.trans hp) ⟨s0.get,_⟩ o aH og))
  obtain⟨g1,x1⟩:=σ1
  obtain⟨o2,rfl,q1,q2,q3,q4⟩:=hq
  (try dsimp only at q1 q2 q3 q4)
  have k5:=(q4 ⟨97000000,σ.next⟩ aH).trans h5
  have o25:=ei (a:=⟨97000000,σ.next⟩) (b:=o2) aH
  apply hN
  clear hN N
  (try((repeat(revert N;apply Pn.out));refine wk (tw @Jw.eq_1 (tw @Jz.eq_1 (tw @e2 @k5))) ?_;(repeat(apply Pn.mk;intro N hN))))
  exact eo (.inl rfl) (vs:=[.agg [.own o2 0 L.length]]) (by rw[Jz];simp only[gU,jj,go_sem, ↓reduceIte,Nat.reduceEqDiff,Nat.reduceAdd,Nat.reduceSub,Nat.reduceLeDiff,reduceCtorEq,e2]) ⟨o2,rfl,sd (tw @o25 @q1),ae,aH,aH,fun y hy TZ=>by
   have h1:=bZ (i:=y) (n:=σ.next) hy
   simp only[go_sem, ↓reduceIte,Nat.reduceEqDiff,Nat.reduceAdd,Nat.reduceSub,Nat.reduceLeDiff,reduceCtorEq,h1]
   exact(q4 y ae).trans (iO y hy TZ)⟩
theorem jx.three {g g':Rows} {n n':Nat} {c T O:Id} {s:au} {ts:List aa} (h:jx g n c T O s ts) (hn:n<=n') (hc:g' c=g c) (hT:g' T=g T) (hO:g' O=g O):jx g' n' c T O s ts:=
 ⟨hc.trans h.row,hT.trans h.tl,by rw[hO];exact h.op,Nat.lt_of_lt_of_le h.cv hn,Nat.lt_of_lt_of_le h.tv hn,Nat.lt_of_lt_of_le h.ov hn,h.cT,h.cO,h.TO⟩
theorem B6 (q:aa):∀l:List aa,(l++[q]).Perm (gn l q)
 |[]=>List.Perm.refl _
 |x::l=>by
  have ih:=B6 q l
  rw[gn]
  split
  ·exact List.perm_append_comm (l₁:=x::l) (l₂:=[q])
  ·exact ih.cons x
structure pg (s:au) (S:iJ):Prop where
 at_:∀q,eM (s.bH.aj++S.1) q=eM S.2 q
 perm:(s.bH.aj++S.1).Perm S.2
theorem pg.fit {s:au} {S:iJ} (h:pg s S) (p:ai) (t:Int):ee s (s.bH.aj++S.1) p t=ee s S.2 p t:=by
 have e:eM (s.bH.aj++S.1)=eM S.2:=funext h.at_
 unfold ee
 rw[e]
theorem pg.no {s:au} {S:iJ} (h:pg s S) {p:ai} (h0:dm S.2 p<0):dm (s.bH.aj++S.1) p<0:=iZ.2 fun t ht=>iZ.1 h0 t (h.perm.subset ht)
theorem pg.put {s:au} {S:iJ} (h:pg s S) {x:aa} (h0:dm S.2 x.aI<0):pg s (S.1++[x],gn S.2 x) where
 at_ q:=by
  show eM (s.bH.aj++(S.1++[x])) q=eM (gn S.2 x) q
  rw[<-List.append_assoc,qO q (iZ.1 (h.no h0)),yn q (iZ.1 h0),h.at_]
 perm:=by
  show(s.bH.aj++(S.1++[x])).Perm (gn S.2 x)
  rw[<-List.append_assoc]
  exact(h.perm.append_right [x]).trans (B6 x S.2)
structure Sp (σ:ax) (m:Nat) (c T O:Id) (s:au) (l:List aa) (S:iJ) (e7:AV) (g:Rows) (n:Nat):Prop where
 xO:jx g n c T O s (s.bH.aj++S.1)
 u:(S.1=[]/\e7=.bj)∨∃u:Id,e7=.own u 0 S.1.length/\g u=some ⟨true,3,S.1.map ab⟩/\m<=u.bq/\u.bq<n/\0<S.1.length
 lo:m<=n
 fr:∀x:Id,x.bq<m->x≠T->x≠O->x≠c->g x=σ.get x
theorem Sp.frame {σ:ax} {m:Nat} {c T O:Id} {s:au} {l:List aa} {S:iJ} {e7 e7':AV} {g g':Rows} {n n':Nat} (h:Sp σ m c T O s l S e7 g n) (he:e7'=e7) (hn:n<=n') (hf:∀x:Id,x.bq<n->g' x=g x):Sp σ m c T O s l S e7' g' n' where
 xO:=h.xO.frame hn hf
 u:=by
  subst he
  rcases h.u with h1|⟨u,h1,h2,h3,h4,h5⟩
  ·exact .inl h1
  ·exact .inr ⟨u,h1,(hf u h4).trans h2,h3,ae,h5⟩
 lo:=Nat.le_trans h.lo hn
 fr x hx h1 h2 h3:=(hf x (Nat.lt_of_lt_of_le hx h.lo)).trans (h.fr x hx h1 h2 h3)
theorem Fs (s:au) (hP:L6 s) (l:List aa) (hA:gx s.aD l) (hW:ir s.bH.aj l=true) (σ:ax):Call Tryz.prog 106 [.agg (ck s),.agg [.sl (l.map ab)]] σ (fun r σ'=>∃v o,r=.fP [v,.agg [.own o 0 (k8 s l).2.length]]/\(((k8 s l).1=[]/\v=.bj)∨∃u:Id,v=.own u 0 (k8 s l).1.length/\σ'.get u=some ⟨true,3,(k8 s l).1.map ab⟩/\σ.next<=u.bq/\u.bq<σ'.next/\u.bq<o.bq/\0<(k8 s l).1.length)/\σ'.get o=some ⟨true,3,(k8 s l).2.map ab⟩/\σ.next<=o.bq/\o.bq<σ'.next/\∀x:Id,x.bq<σ.next->σ'.get x=σ.get x):=by
 refine eZ fx rfl fun fD=>?_
 clear fD
 have AM:=hA.1.pL
 have hI0:=q9 hP hA hW
 have Nb:=hI0.pL
 (try dsimp only at Nb)
 have hsf:=hP.o8
 (try((repeat(revert N;apply Pn.out));refine wk @ck.eq_1 ?_;(repeat(apply Pn.mk;intro N hN))))
 have hc:=fun σ=>uC s hP.set s.bH.aj hP.o8 σ
 rw[ck]at hc
 refine .inr (ay _ _ _ _ _ (fun r σ1 hq=>?_) (hc _))
 obtain⟨g1,x1⟩:=σ1
 obtain⟨c,T,O,rfl,hC,MR,C1,EX,qv,iO⟩:=hq
 (try dsimp only at hC MR C1 EX qv iO)
 have k3:=iO ⟨106000001,σ.next⟩ aH
 have k5:=iO ⟨106000003,σ.next⟩ aH
 simp only[go_sem, ↓reduceIte,Nat.reduceEqDiff,Nat.reduceAdd,Nat.reduceSub,Nat.reduceLeDiff,reduceCtorEq]at k3 k5
 have hcx:=hC.cv
 have hTx:=hC.tv
 have hOx:=hC.ov
 apply hN
 clear hN N
 (try((repeat(revert N;apply Pn.out));refine wk (tw @k3 (tw @k5 @ck.eq_1)) ?_;(repeat(apply Pn.mk;intro N hN))))
 refine cm (fun n env st=>∃(S:iJ) (m:Nat) (go:Bool),n=(if go then m else 0)/\env 8=.bool go/\(go=true->rX s l m S=k8 s l/\sm l S.2<m)/\(go=false->S=k8 s l)/\oD s l S/\pg s S/\Sp ⟨g1,x1⟩ x1 c T O s l S (env 7) st.get st.next) (l.length+1) ⟨([],s.bH.aj),l.length+1,true,rfl,sd @Nat.zero_add,fun _=>⟨rfl,by have:=PL l s.bH.aj;(try dsimp only);omega⟩,fun h=>(by cases h),hI0,⟨fun q=>by simp,by simp⟩,?_⟩ ?_
 ·refine⟨?_,.inl ⟨rfl,sd @Nat.zero_add⟩,aH,fun x hx h1 h2 h3=>sd @Nat.zero_add⟩
  have:=hC.frame (g':=g1) (n':=x1+1+1+1) ae fun x hx=>rfl
  simpa using this
 rintro n1 e1 st1 ⟨S,m,go,rfl,e8,As,hend,hI,Gt,hR⟩ hk
 have c3:=hk 3 (by kernel_rfl)
 have c5:=hk 5 (by kernel_rfl)
 have c6:=hk 6 (by kernel_rfl)
 simp only[go_sem, ↓reduceIte,Nat.reduceEqDiff,Nat.reduceAdd,Nat.reduceSub,Nat.reduceLeDiff,reduceCtorEq]at c3 c5 c6
 clear hk hc
 have nv:∀{x y:Id},x.bq<y.bq->x≠y:=fun h e=>by rw[e]at h;omega
 have b3:=(hR.fr ⟨106000001,σ.next⟩ aH (nv aH) (nv aH) (nv aH)).trans k3
 have b5:=(hR.fr ⟨106000003,σ.next⟩ aH (nv aH) (nv aH) (nv aH)).trans k5
 have hRl:=hR.lo
 cases go
 ·have hS:=hend rfl
  subst hS
  clear hend As
  (try((repeat(revert N;apply Pn.out));refine wk (tw @e8 @c6) ?_;(repeat(apply Pn.mk;intro N hN))))
  have qZ:=hI.len
  have hsf2:=hI.pL
  refine .inr (ay _ _ _ _ _ (fun r σ2 hq=>?_) (sM (σ:=⟨st1.get,_⟩) (L:=(k8 s l).2) (hR.xO.frame aH fun x _=>rfl) (by rw[List.length_append];omega) (fun e=>by have:=congrArg List.length e;rw[List.length_append,List.length_nil]at this;have:=hP.some;omega) hI.xY Gt.perm))
  obtain⟨g2,x2⟩:=σ2
  obtain⟨o,rfl,q1,q2,q3,q4,q5⟩:=hq
  (try dsimp only at q1 q2 q3 q4 q5)
  have d5:=(q5 ⟨106000003,σ.next⟩ aH (nv aH)).trans b5
  apply hN
  clear hN N
  (try((repeat(revert N;apply Pn.out));refine wk (tw @c5 (tw @d5 @c6)) ?_;(repeat(apply Pn.mk;intro N hN))))
  have vv:∀x:Id,σ.next<x.bq->(x=(⟨106000003,σ.next⟩:Id))=False:=fun x hx=>eq_false fun e=>by rw[e]at hx;(try dsimp only at hx);omega
  have vo:=vv o ae
  refine eo (.inl rfl) (vs:=[e1 7,.agg [.own o 0 (k8 s l).2.length]]) (sd @c5) ⟨_,o,rfl,?_,sd (tw @vo @q1),ae,aH,fun x hx=>?_⟩
  ·rcases hR.u with h1|⟨u,h1,h2,h3,h4,h40⟩
   ·exact .inl h1
   ·have vu:=vv u ae
    have h5:=(q5 u aH (fun e=>by rw[e]at h3;omega)).trans h2
    exact .inr ⟨u,h1,sd (tw @vu @h5),ae,aH,by(try dsimp only at q2);omega,h40⟩
  ·have h1:=bZ hx
   have h2:=q5 x ae (nv ae)
   have h3:=hR.fr x ae (nv ae) (nv ae) (nv ae)
   have h4:=iO x aH
   simp only[go_sem, ↓reduceIte,Nat.reduceEqDiff,Nat.reduceAdd,Nat.reduceSub,Nat.reduceLeDiff,reduceCtorEq,h1]at h4
   (try dsimp only at h3)
   simp only[go_sem, ↓reduceIte,Nat.reduceEqDiff,Nat.reduceAdd,Nat.reduceSub,Nat.reduceLeDiff,reduceCtorEq,h1]
   exact h2.trans (h3.trans h4)
 ·obtain⟨hF,hm⟩:=As rfl
  clear hend As
  have GA:ja s l S 0=S:=by simp[ja]
  (try((repeat(revert N;apply Pn.out));refine wk (tw @e8 (tw @c3 @b3)) ?_;(repeat(apply Pn.mk;intro N hN))))
  refine cm (fun n env st=>∃i:Nat,n=(l.length)-i/\i<=(l.length)/\env 19=.int .i64 (i:Int)/\(env 8=.bool (decide ((ja s l S i).1.length≠S.1.length))/\pg s (ja s l S i)/\Sp ⟨g1,x1⟩ x1 c T O s l (ja s l S i) (env 7) st.get st.next)) (l.length) ⟨0,ae,ae,sl (tw @c3 (tw @c5 @c6)),by(try dsimp only);exact⟨by rw[GA];simp only[go_sem, ↓reduceIte,Nat.reduceEqDiff,Nat.reduceAdd,Nat.reduceSub,Nat.reduceLeDiff,reduceCtorEq]<;>simp,by rw[GA];exact Gt,by rw[GA];exact hR.frame (sd @Nat.zero_add) aH fun x _=>rfl⟩⟩ ?_
  rintro n_b env_b st_b ⟨i,rfl,ble,b19,bI0⟩ eS
  have b3:=eS 3 (by kernel_rfl);have b5:=eS 5 (by kernel_rfl);have b6:=eS 6 (by kernel_rfl);have OR:=eS 17 (by kernel_rfl);have OS:=eS 18 (by kernel_rfl)
  simp only[go_sem, ↓reduceIte,Nat.reduceEqDiff,Nat.reduceAdd,Nat.reduceSub,Nat.reduceLeDiff,reduceCtorEq,c3,c5,c6]at b3 b5 b6 OR OS
  clear eS
  obtain⟨b8,bS,bR⟩:=bI0
  obtain⟨OY,MU,LH⟩:=wM hI hA i ae
  by_cases hi:(i:Int)<(l.length:Int)
  ·have fb:∀{e:Env} {gg:Rows} {nx:Nat},(e 19=.int .i64 (IntKind.i64.wrap ((i:Int)+1)))->(e 8=.bool (decide ((ja s l S (i+1)).1.length≠S.1.length))/\pg s (ja s l S (i+1))/\Sp ⟨g1,x1⟩ x1 c T O s l (ja s l S (i+1)) (e 7) gg nx)->∃m0,m0<(l.length)-i/\∃i:Nat,m0=(l.length)-i/\i<=(l.length)/\e 19=.int .i64 (i:Int)/\(e 8=.bool (decide ((ja s l S i).1.length≠S.1.length))/\pg s (ja s l S i)/\Sp ⟨g1,x1⟩ x1 c T O s l (ja s l S i) (e 7) gg nx):=fun x1 x2=>⟨_,ae,i+1,rfl,ae,(by rw[x1,bf ae]),x2⟩
   have gV:i<l.length:=ae
   have oM:=tj s l S gV
   have hx:=fH gV
   have ht:=hA.2 _ hx
   have jt:=fM gV
   have hTA:=OY.Wn hA
   have fc:(l.map ab).length=l.length:=by simp
   have hTf:=OY.pL
   have Tp:=OY.len
   have M6:xG (aA l i).aI=true:=hA.1.pt gV
   generalize ja s l S i=U at OY hTA oM hTf Tp LH b8 bS bR
   have VO:∀q,0<=eM (s.bH.aj++U.1) q->eE s.aD (eM (s.bH.aj++U.1) q)=true:=fun q hq=>by
    rw[bS.at_]at hq ⊢
    exact gy.Bg hTA q hq
   (try((repeat(revert N;apply Pn.out));refine wk (tw @b19 (tw @b3 (tw @b5 (tw @b6 (tw @OR (tw @OS (tw @hi (tw @jt (tw @fc @ab.eq_1))))))))) ?_;(repeat(apply Pn.mk;intro N hN))))
   have kF:=bS.fit (aA l i).aI (aA l i).aY
   refine .inl ⟨_,CN (bR.xO.xO.frame aH (by(have:=bZ bR.xO.cv);simp only[go_sem, ↓reduceIte,Nat.reduceEqDiff,Nat.reduceAdd,Nat.reduceSub,Nat.reduceLeDiff,reduceCtorEq,this]) (by(have:=bZ bR.xO.tv);simp only[go_sem, ↓reduceIte,Nat.reduceEqDiff,Nat.reduceAdd,Nat.reduceSub,Nat.reduceLeDiff,reduceCtorEq,this])) hP.set VO (aA l i).aI (aA l i).aY ht,?_⟩
   apply hN
   clear hN N
   cases hf:ee s U.2 (aA l i).aI (aA l i).aY
   ·rw[HB hf]at oM
    rw[hf]at kF
    (try((repeat(revert N;apply Pn.out));refine wk (tw @b19 (tw @b3 (tw @b5 (tw @b6 (tw @OR (tw @OS (tw @kF @jt))))))) ?_;(repeat(apply Pn.mk;intro N hN))))
    exact fb (sd (tw @b19 (tw @b3 (tw @b5 (tw @b6 (tw @OR @OS)))))) (by(try dsimp only);exact⟨by rw[oM];simp only[go_sem, ↓reduceIte,Nat.reduceEqDiff,Nat.reduceAdd,Nat.reduceSub,Nat.reduceLeDiff,reduceCtorEq,b8],by rw[oM];exact bS,by rw[oM];exact bR.frame (sd @Nat.zero_add) aH (fun y hy=>by
     have h9:=bZ hy
     simp only[go_sem, ↓reduceIte,Nat.reduceEqDiff,Nat.reduceAdd,Nat.reduceSub,Nat.reduceLeDiff,reduceCtorEq,h9])⟩)
   ·rw[Fq hf]at oM
    rw[hf]at kF
    (try((repeat(revert N;apply Pn.out));refine wk (tw @b19 (tw @b3 (tw @b5 (tw @b6 (tw @OR (tw @OS (tw @kF @jt))))))) ?_;(repeat(apply Pn.mk;intro N hN))))
    have h0:=bS.no (nQ hA OY.sub hf)
    have E6:=bR.lo
    have cx:=bR.xO.cv
    have Tx:=bR.xO.tv
    have Ox:=bR.xO.ov
    refine .inr (ay _ _ _ _ _ (fun r σ2 hq=>?_) (R7 (σ:=⟨bI (bI st_b.get ⟨106008002,st_b.next+1⟩ ⟨true,3,[[.int .i64 0,.int .i64 0,.int .i64 0]]⟩) ⟨106008002,st_b.next+1⟩ ⟨true,3,[[.int .i64 (aA l i).aI.eV,.int .i64 (aA l i).aI.eQ,.int .i64 (aA l i).aY]]⟩,st_b.next+1+1+1+1⟩) (bR.xO.frame aH fun x hx=>by
     have h9:=bZ hx
     simp only[go_sem, ↓reduceIte,Nat.reduceEqDiff,Nat.reduceAdd,Nat.reduceSub,Nat.reduceLeDiff,reduceCtorEq,h9]) hP.set VO (aA l i).aI M6 (aA l i).aY ht h0))
    obtain⟨g2,x2⟩:=σ2
    obtain⟨rfl,oL,Pa,Ht⟩:=hq
    (try dsimp only at oL Pa Ht)
    have kt:=Ht ⟨106008002,st_b.next+1⟩ aH (fun e=>by rw[<-e]at Tx;(try dsimp only at Tx);omega) (fun e=>by rw[<-e]at Ox;(try dsimp only at Ox);omega)
    simp only[go_sem, ↓reduceIte,Nat.reduceEqDiff,Nat.reduceAdd,Nat.reduceSub,Nat.reduceLeDiff,reduceCtorEq]at kt
    have pU:(⟨(aA l i).aI,(aA l i).aY⟩:aa)=aA l i:=rfl
    rw[pU,List.append_assoc]at oL
    have hd:decide ((U.1++[aA l i]).length≠S.1.length)=true:=decide_eq_true (by rw[lH];omega)
    have qY:=lH U.1 (aA l i)
    have ly:=zr U.1 (aA l i)
    have vt2:=bZ (i:=⟨106008002,st_b.next+1⟩) (n:=x2) aH
    have c2:=bZ oL.cv
    have T2:=bZ oL.tv
    have O2:=bZ oL.ov
    have I3:∀y:Id,y.bq<x1->y≠T->y≠O->g2 y=st_b.get y:=fun y hy h1 h2=>by
     have h3:=Ht y ae h1 h2
     have h4:=bZ (i:=y) (n:=st_b.next) ae
     simp only[go_sem, ↓reduceIte,Nat.reduceEqDiff,Nat.reduceAdd,Nat.reduceSub,Nat.reduceLeDiff,reduceCtorEq,h4]at h3
     exact h3
    apply hN
    clear hN N
    rcases bR.u with⟨hU,b7⟩|⟨u,b7,bu,hu3,hu4,_⟩
    ·(try((repeat(revert N;apply Pn.out));refine wk (tw @b19 (tw @b3 (tw @b5 (tw @b6 (tw @OR (tw @OS (tw @b7 (tw @kt @vt2)))))))) ?_;(repeat(apply Pn.mk;intro N hN))))
     exact fb (sd (tw @b19 (tw @b3 (tw @b5 (tw @b6 (tw @OR @OS)))))) (by(try dsimp only);exact⟨by rw[oM,hd]<;>simp only[go_sem, ↓reduceIte,Nat.reduceEqDiff,Nat.reduceAdd,Nat.reduceSub,Nat.reduceLeDiff,reduceCtorEq],by rw[oM];exact bS.put (nQ hA OY.sub hf),by
      rw[oM]
      refine⟨oL.three aH (sd @c2) (sd @T2) (sd @O2),.inr ⟨⟨106011003,x2+1⟩,by rw[qY,hU];simp only[go_sem, ↓reduceIte,Nat.reduceEqDiff,Nat.reduceAdd,Nat.reduceSub,Nat.reduceLeDiff,reduceCtorEq]<;>rfl,by rw[ly,hU];simp only[go_sem, ↓reduceIte,Nat.reduceEqDiff,Nat.reduceAdd,Nat.reduceSub,Nat.reduceLeDiff,reduceCtorEq]<;>rfl,aH,aH,by(try dsimp only);rw[lH];omega⟩,aH,fun y hy h1 h2 h3=>?_⟩
      have h4:=bZ (i:=y) (n:=x2) ae
      have h5:=I3 y hy h1 h2
      have h6:=bR.fr y hy h1 h2 h3
      (try dsimp only at h6)
      simp only[go_sem, ↓reduceIte,Nat.reduceEqDiff,Nat.reduceAdd,Nat.reduceSub,Nat.reduceLeDiff,reduceCtorEq,h4,h5,h6]⟩)
    ·have ku:=Ht u aH (fun e=>by rw[e]at hu3;omega) (fun e=>by rw[e]at hu3;omega)
     have vu:=bZ hu4
     simp only[go_sem, ↓reduceIte,Nat.reduceEqDiff,Nat.reduceAdd,Nat.reduceSub,Nat.reduceLeDiff,reduceCtorEq,vu,bu]at ku
     have vu2:=bZ (i:=u) (n:=x2) ae
     have ut:=ei (a:=u) (b:=⟨106008002,st_b.next+1⟩) aH
     have hum:(U.1.map ab).length=U.1.length:=by simp
     have Pd:U.1.length<=16777215:=ae
     have uc:=ei (a:=c) (b:=u) ae
     have uT:=ei (a:=T) (b:=u) ae
     have uO:=ei (a:=O) (b:=u) ae
     (try((repeat(revert N;apply Pn.out));refine wk (tw @b19 (tw @b3 (tw @b5 (tw @b6 (tw @OR (tw @OS (tw @b7 (tw @kt (tw @vt2 (tw @ku (tw @vu2 (tw @ut (tw @hum @Pd))))))))))))) ?_;(repeat(apply Pn.mk;intro N hN))))
     exact fb (sd (tw @b19 (tw @b3 (tw @b5 (tw @b6 (tw @OR @OS)))))) (by(try dsimp only);exact⟨by rw[oM,hd]<;>simp only[go_sem, ↓reduceIte,Nat.reduceEqDiff,Nat.reduceAdd,Nat.reduceSub,Nat.reduceLeDiff,reduceCtorEq],by rw[oM];exact bS.put (nQ hA OY.sub hf),by
      rw[oM]
      refine⟨oL.three aH (sd (tw @c2 @uc)) (sd (tw @T2 @uT)) (sd (tw @O2 @uO)),.inr ⟨⟨106011003,x2+1⟩,by rw[qY];simp only[go_sem, ↓reduceIte,Nat.reduceEqDiff,Nat.reduceAdd,Nat.reduceSub,Nat.reduceLeDiff,reduceCtorEq]<;>rfl,by rw[ly];simp only[go_sem, ↓reduceIte,Nat.reduceEqDiff,Nat.reduceAdd,Nat.reduceSub,Nat.reduceLeDiff,reduceCtorEq]<;>rfl,aH,aH,by(try dsimp only);rw[lH];omega⟩,aH,fun y hy h1 h2 h3=>?_⟩
      have h4:=bZ (i:=y) (n:=x2) ae
      have h5:=I3 y hy h1 h2
      have h6:=bR.fr y hy h1 h2 h3
      have h7:=ei (a:=y) (b:=u) ae
      (try dsimp only at h6)
      simp only[go_sem, ↓reduceIte,Nat.reduceEqDiff,Nat.reduceAdd,Nat.reduceSub,Nat.reduceLeDiff,reduceCtorEq,h4,h5,h6,h7]⟩)
  ·have nR:i=l.length:=ae
   subst nR
   rw[nT]at OY b8 MU bS bR
   have qv:=Kw hI hA hm
   (try((repeat(revert N;apply Pn.out));refine wk (tw @b19 (tw @b3 (tw @b5 (tw @b6 (tw @OR (tw @OS @hi)))))) ?_;(repeat(apply Pn.mk;intro N hN))))
   by_cases he:(gJ s l S).1.length=S.1.length
   ·refine⟨0,by show 0<m;omega,gJ s l S,0,false,rfl,?_,fun h=>(by cases h),fun _=>(qv.1 he).symm.trans hF,OY,bS,bR.frame (sd @Nat.zero_add) aH fun x _=>rfl⟩
    simp only[go_sem, ↓reduceIte,Nat.reduceEqDiff,Nat.reduceAdd,Nat.reduceSub,Nat.reduceLeDiff,reduceCtorEq,b8,he]<;>simp
   ·obtain⟨m',rfl,PV,Hw⟩:=qv.2 he
    refine⟨m',Nat.lt_succ_self _,gJ s l S,m',true,rfl,?_,fun _=>⟨PV.symm.trans hF,Hw⟩,fun h=>(by cases h),OY,bS,bR.frame (sd @Nat.zero_add) aH fun x _=>rfl⟩
    have hd:=decide_eq_true he
    simp only[go_sem, ↓reduceIte,Nat.reduceEqDiff,Nat.reduceAdd,Nat.reduceSub,Nat.reduceLeDiff,reduceCtorEq,b8]
    rw[hd]
def ki (l:List aa) (ps:List ai) (q:ai):List ai:=if xG q=true/\dm l q<0 then rY ps q else ps
def fK (l:List aa) (ps:List ai) (p:ai):Nat->List ai
 |0=>ps
 |d+1=>ki l (fK l ps p d) (bc p d)
def fj (l:List aa):Nat->List ai
 |0=>[]
 |i+1=>fK l (fj l i) (aA l i).aI 4
def jK (l:List aa):List ai:=fj l l.length
theorem Dl {l:List aa} {ps:List ai} (h:oF ps) (q:ai):oF (ki l ps q):=by
 unfold ki;split
 ·exact NX h q
 ·exact h
theorem tz {l:List aa} {ps:List ai} (h:oF ps) (p:ai):∀d,oF (fK l ps p d)
 |0=>h
 |d+1=>Dl (tz h p d) _
theorem tA (l:List aa):∀i,oF (fj l i)
 |0=>List.Pairwise.nil
 |i+1=>tz (tA l i) _ 4
theorem Dk (l:List aa) (ps:List ai) (q:ai):(ki l ps q).length<=ps.length+1:=by
 unfold ki;split
 ·exact NW ps q
 ·omega
theorem tx (l:List aa) (ps:List ai) (p:ai):∀d,(fK l ps p d).length<=ps.length+d
 |0=>Nat.le_refl _
 |d+1=>by
  have:=tx l ps p d
  have:=Dk l (fK l ps p d) (bc p d)
  simp only[fK];omega
theorem mC (l:List aa):∀i,(fj l i).length<=i*4
 |0=>Nat.le_refl _
 |i+1=>by
  have:=mC l i
  have:=tx l (fj l i) (aA l i).aI 4
  simp only[fj];omega
theorem zw (l:List aa) (ps:List ai) (p:ai) (x:ai):∀d,x∈fK l ps p d↔x∈ps∨∃k,k<d/\x=bc p (k:Nat)/\xG x=true/\dm l x<0
 |0=>⟨.inl,fun h=>h.elim id fun⟨_,h,_⟩=>absurd h (Nat.not_lt_zero _)⟩
 |d+1=>by
  simp only[fK,ki]
  have ih:=zw l ps p x d
  split
  ·rename_i h
   rw[NA,ih]
   constructor
   ·rintro(rfl|h1|⟨k,h1,h2⟩)
    ·exact .inr ⟨d,Nat.lt_succ_self _,rfl,h⟩
    ·exact .inl h1
    ·exact .inr ⟨k,ae,h2⟩
   ·rintro(h1|⟨k,h1,h2⟩)
    ·exact .inr (.inl h1)
    ·by_cases hk:k=d
     ·subst hk;exact .inl h2.1
     ·exact .inr (.inr ⟨k,ae,h2⟩)
  ·rename_i h
   rw[ih]
   constructor
   ·rintro(h1|⟨k,h1,h2⟩)
    ·exact .inl h1
    ·exact .inr ⟨k,ae,h2⟩
   ·rintro(h1|⟨k,h1,h2⟩)
    ·exact .inl h1
    ·by_cases hk:k=d
     ·subst hk;rw[h2.1]at h2;exact absurd h2.2 h
     ·exact .inr ⟨k,ae,h2⟩
def Ee (l:List aa) (x:ai):Prop:=xG x=true/\dm l x<0/\∃i d:Nat,i<l.length/\d<4/\x=bc (aA l i).aI d
theorem zx (l:List aa) (x:ai):∀i,x∈fj l i↔∃j d:Nat,j<i/\d<4/\x=bc (aA l j).aI d/\xG x=true/\dm l x<0
 |0=>⟨fun h=>(by cases h),fun⟨_,_,h,_⟩=>absurd h (Nat.not_lt_zero _)⟩
 |i+1=>by
  simp only[fj]
  rw[zw,zx l x i]
  constructor
  ·rintro(⟨j,d,h1,h2⟩|⟨d,h1,h2⟩)
   ·exact⟨j,d,ae,h2⟩
   ·exact⟨i,d,Nat.lt_succ_self _,h1,h2⟩
  ·rintro⟨j,d,h1,h2,h3⟩
   by_cases hj:j=i
   ·subst hj;exact .inr ⟨d,h2,h3⟩
   ·exact .inl ⟨j,d,ae,h2,h3⟩
theorem BQ (l:List aa) (x:ai):x∈jK l↔Ee l x:=by
 unfold jK Ee
 rw[zx]
 exact⟨fun⟨j,d,h1,h2,h3,h4,h5⟩=>⟨h4,h5,j,d,h1,h2,h3⟩,fun⟨h4,h5,j,d,h1,h2,h3⟩=>⟨j,d,h1,h2,h3,h4,h5⟩⟩
theorem KH (l:List aa) (hF:kc l) (σ:ax):Call Tryz.prog 195 [.ef [.sl (l.map ab)]] σ (Wi σ (fun _=>True) (jK l)):=by
 refine eZ fx rfl fun fD=>?_
 clear fD
 have hR:=hF.xY
 have AM:=hF.pL
 (try((repeat(revert N;apply Pn.out));refine wk @Nat.zero_add ?_;(repeat(apply Pn.mk;intro N hN))))
 refine cm (fun n env st=>∃i:Nat,n=(l.length)-i/\i<=(l.length)/\env 4=.int .i64 (i:Int)/\(∃o:Id,env 3=.own o 0 (fj l i).length/\st.get o=some ⟨true,2,(fj l i).map ad⟩/\o.bq<st.next/\σ.next<=o.bq/\∀x:Id,x.bq<σ.next->st.get x=σ.get x)) (l.length) ⟨0,ae,ae,sl @Nat.zero_add,⟨⟨195001000,σ.next+1⟩,by simp only[go_sem, ↓reduceIte,Nat.reduceEqDiff,Nat.reduceAdd,Nat.reduceSub,Nat.reduceLeDiff,reduceCtorEq];rfl,by simp only[go_sem, ↓reduceIte,Nat.reduceEqDiff,Nat.reduceAdd,Nat.reduceSub,Nat.reduceLeDiff,reduceCtorEq];rfl,aH,aH,fun x hx=>by
  have:=bZ (i:=x) (n:=σ.next+1) ae
  simp only[go_sem, ↓reduceIte,Nat.reduceEqDiff,Nat.reduceAdd,Nat.reduceSub,Nat.reduceLeDiff,reduceCtorEq,this]⟩⟩ ?_
 rintro n_a env_a st_a ⟨i,rfl,ale,a4,qN⟩ eF
 have a0:=eF 0 (by kernel_rfl)
 simp only[go_sem, ↓reduceIte,Nat.reduceEqDiff,Nat.reduceAdd,Nat.reduceSub,Nat.reduceLeDiff,reduceCtorEq]at a0
 clear eF
 obtain⟨o,a3,ag,Ly,Rr,eF⟩:=qN
 by_cases hi:(i:Int)<(l.length:Int)
 ·have eh:∀{e:Env} {gg:Rows} {nx:Nat},(e 4=.int .i64 (IntKind.i64.wrap ((i:Int)+1)))->(∃o:Id,e 3=.own o 0 (fj l (i+1)).length/\gg o=some ⟨true,2,(fj l (i+1)).map ad⟩/\o.bq<nx/\σ.next<=o.bq/\∀x:Id,x.bq<σ.next->gg x=σ.get x)->∃m0,m0<(l.length)-i/\∃i:Nat,m0=(l.length)-i/\i<=(l.length)/\e 4=.int .i64 (i:Int)/\(∃o:Id,e 3=.own o 0 (fj l i).length/\gg o=some ⟨true,2,(fj l i).map ad⟩/\o.bq<nx/\σ.next<=o.bq/\∀x:Id,x.bq<σ.next->gg x=σ.get x):=fun x1 x2=>⟨_,ae,i+1,rfl,ae,(by rw[x1,bf ae]),x2⟩
  have gV:i<l.length:=ae
  (try((repeat(revert N;apply Pn.out));refine wk (tw @a4 (tw @a0 (tw @a3 @hi))) ?_;(repeat(apply Pn.mk;intro N hN))))
  refine cm (fun n env st=>∃d:Nat,n=(4)-d/\d<=(4)/\env 5=.int .i64 (d:Int)/\(∃o:Id,env 3=.own o 0 (fK l (fj l i) (aA l i).aI d).length/\st.get o=some ⟨true,2,(fK l (fj l i) (aA l i).aI d).map ad⟩/\o.bq<st.next/\σ.next<=o.bq/\∀x:Id,x.bq<σ.next->st.get x=σ.get x)) (4) ⟨0,ae,ae,sl (tw @a4 @a0),⟨o,by simp only[go_sem, ↓reduceIte,Nat.reduceEqDiff,Nat.reduceAdd,Nat.reduceSub,Nat.reduceLeDiff,reduceCtorEq,a3,fK],by simp only[go_sem, ↓reduceIte,Nat.reduceEqDiff,Nat.reduceAdd,Nat.reduceSub,Nat.reduceLeDiff,reduceCtorEq,ag,fK],aH,Rr,fun x hx=>sd (eF x hx)⟩⟩ ?_
  rintro n_b env_b st_b ⟨d,rfl,ble,b5,bI0⟩ eS
  have b0:=eS 0 (by kernel_rfl);have b4:=eS 4 (by kernel_rfl)
  simp only[go_sem, ↓reduceIte,Nat.reduceEqDiff,Nat.reduceAdd,Nat.reduceSub,Nat.reduceLeDiff,reduceCtorEq,a4,a0]at b0 b4
  clear eS
  obtain⟨ob,b3,bg,bov,Rt,eS⟩:=bI0
  by_cases hd:(d:Int)<4
  ·have fb:∀{e:Env} {gg:Rows} {nx:Nat},(e 5=.int .i64 (IntKind.i64.wrap ((d:Int)+1)))->(∃o:Id,e 3=.own o 0 (fK l (fj l i) (aA l i).aI (d+1)).length/\gg o=some ⟨true,2,(fK l (fj l i) (aA l i).aI (d+1)).map ad⟩/\o.bq<nx/\σ.next<=o.bq/\∀x:Id,x.bq<σ.next->gg x=σ.get x)->∃m0,m0<(4)-d/\∃d:Nat,m0=(4)-d/\d<=(4)/\e 5=.int .i64 (d:Int)/\(∃o:Id,e 3=.own o 0 (fK l (fj l i) (aA l i).aI d).length/\gg o=some ⟨true,2,(fK l (fj l i) (aA l i).aI d).map ad⟩/\o.bq<nx/\σ.next<=o.bq/\∀x:Id,x.bq<σ.next->gg x=σ.get x):=fun x1 x2=>⟨_,ae,d+1,rfl,ae,(by rw[x1,bf ae]),x2⟩
   have jt:=fM gV
   have C6:=oR (hF.pt gV)
   have ed:=wg (aA l i).aI d (jU ae) C6.1 C6.2
   have Xw:=zh (bc (aA l i).aI d)
   have ni:=bZ bov
   have DV:((fK l (fj l i) (aA l i).aI d).map ad).length=(fK l (fj l i) (aA l i).aI d).length:=by simp
   cases hp:xG (bc (aA l i).aI d)
   ·rw[hp]at Xw
    have qv:fK l (fj l i) (aA l i).aI (d+1)=fK l (fj l i) (aA l i).aI d:=by
     simp only[fK,ki];rw[if_neg fun h=>by rw[hp]at h;cases h.1]
    (have zF:=tw @b5 (tw @b0 (tw @b4 (tw @b3 (tw @bg (tw @hd (tw @jt (tw @ni (tw @ab.eq_1 @ad.eq_1))))))));(repeat(first|((repeat(revert N;apply Pn.out));refine wk zF ?_;(repeat(apply Pn.mk;intro N hN)))|((try apply Or.inl);refine⟨_,aw.x (ed) (sd zF),?_⟩;apply hN;clear hN N)|((try apply Or.inl);refine⟨_,aw.x (Xw) (sd zF),?_⟩;apply hN;clear hN N)));try clear zF)
    exact fb (sd (tw @b5 (tw @b0 (tw @b4 @ad.eq_1)))) (by exact⟨ob,sd (tw @b3 @qv),sd (tw @bg (tw @ni @qv)),aH,Rt,fun x hx=>by
     have h1:=bZ (i:=x) (n:=st_b.next) ae
     have h2:=bZ (i:=x) (n:=st_b.next+1) ae
     have h3:=eS x hx
     simp only[go_sem, ↓reduceIte,Nat.reduceEqDiff,Nat.reduceAdd,Nat.reduceSub,Nat.reduceLeDiff,reduceCtorEq,h1,h2,h3]⟩)
   ·rw[hp]at Xw
    have AN:=tk l (bc (aA l i).aI d) hR ae
    by_cases hx:dm l (bc (aA l i).aI d)<0
    ·have qv:fK l (fj l i) (aA l i).aI (d+1)=rY (fK l (fj l i) (aA l i).aI d) (bc (aA l i).aI d):=by
      simp only[fK,ki];rw[if_pos ⟨hp,hx⟩]
     have LJ:=tx l (fj l i) (aA l i).aI d
     have MZ:=mC l i
     (have zF:=tw @b5 (tw @b0 (tw @b4 (tw @b3 (tw @bg (tw @hd (tw @jt (tw @ni (tw @hx (tw @ab.eq_1 @ad.eq_1)))))))));(repeat(first|((repeat(revert N;apply Pn.out));refine wk zF ?_;(repeat(apply Pn.mk;intro N hN)))|((try apply Or.inl);refine⟨_,aw.x (ed) (sd zF),?_⟩;apply hN;clear hN N)|((try apply Or.inl);refine⟨_,aw.x (Xw) (sd zF),?_⟩;apply hN;clear hN N)|((try apply Or.inl);refine⟨_,aw.x (AN) (sd zF),?_⟩;apply hN;clear hN N)));try clear zF)
     refine .inr (ay _ _ _ _ _ (fun r σ1 hq=>?_) (AW _ (tz (tA l i) _ d) ae (bc (aA l i).aI d) ob _ (sd (tw @bg @ni)) aH))
     obtain⟨g1,x1⟩:=σ1
     obtain⟨o1,rfl,q1,q2,q3,q4,q5⟩:=hq
     (try dsimp only at q1 q2 q3 q4 q5)
     apply hN
     clear hN N
     (try((repeat(revert N;apply Pn.out));refine wk (tw @b5 (tw @b0 @b4)) ?_;(repeat(apply Pn.mk;intro N hN))))
     exact fb (sd (tw @b5 (tw @b0 (tw @b4 @ad.eq_1)))) (by exact⟨o1,sd @qv,sd (tw @q1 @qv),aH,by
      rcases q4 with h|h
      ·omega
      ·have:o1=ob:=by simpa using h
       rw[this];exact Rt,fun x hx=>by
      have h1:=bZ (i:=x) (n:=st_b.next) ae
      have h2:=bZ (i:=x) (n:=st_b.next+1) ae
      have h3:=eS x hx
      have h4:(x=ob)=False:=eq_false fun h=>by rw[h]at hx;omega
      have h5:=q5 x ae h4
      simp only[go_sem, ↓reduceIte,Nat.reduceEqDiff,Nat.reduceAdd,Nat.reduceSub,Nat.reduceLeDiff,reduceCtorEq,h1,h2,h3,h5]⟩)
    ·have qv:fK l (fj l i) (aA l i).aI (d+1)=fK l (fj l i) (aA l i).aI d:=by
      simp only[fK,ki];rw[if_neg fun h=>hx h.2]
     (have zF:=tw @b5 (tw @b0 (tw @b4 (tw @b3 (tw @bg (tw @hd (tw @jt (tw @ni (tw @hx (tw @ab.eq_1 @ad.eq_1)))))))));(repeat(first|((repeat(revert N;apply Pn.out));refine wk zF ?_;(repeat(apply Pn.mk;intro N hN)))|((try apply Or.inl);refine⟨_,aw.x (ed) (sd zF),?_⟩;apply hN;clear hN N)|((try apply Or.inl);refine⟨_,aw.x (Xw) (sd zF),?_⟩;apply hN;clear hN N)|((try apply Or.inl);refine⟨_,aw.x (AN) (sd zF),?_⟩;apply hN;clear hN N)));try clear zF)
     exact fb (sd (tw @b5 (tw @b0 (tw @b4 @ad.eq_1)))) (by exact⟨ob,sd (tw @b3 @qv),sd (tw @bg (tw @ni @qv)),aH,Rt,fun x hx=>by
      have h1:=bZ (i:=x) (n:=st_b.next) ae
      have h2:=bZ (i:=x) (n:=st_b.next+1) ae
      have h3:=eS x hx
      simp only[go_sem, ↓reduceIte,Nat.reduceEqDiff,Nat.reduceAdd,Nat.reduceSub,Nat.reduceLeDiff,reduceCtorEq,h1,h2,h3]⟩)
  ·have VQ:d=4:=ae
   rw[VQ]at b3 bg
   have hnu:fK l (fj l i) (aA l i).aI 4=fj l (i+1):=rfl
   rw[hnu]at b3 bg
   (try((repeat(revert N;apply Pn.out));refine wk (tw @b5 (tw @b0 (tw @b4 (tw @b3 (tw @bg @hd))))) ?_;(repeat(apply Pn.mk;intro N hN))))
   exact eh (sd (tw @b5 (tw @b0 (tw @b4 @ad.eq_1)))) (by exact⟨ob,sd @b3,sd @bg,aH,Rt,fun x hx=>sd (eS x hx)⟩)
 ·have nR:i=l.length:=ae
  (try((repeat(revert N;apply Pn.out));refine wk (tw @a4 (tw @a0 (tw @a3 (tw @ag @hi)))) ?_;(repeat(apply Pn.mk;intro N hN))))
  exact eo (.inl rfl) (vs:=[.own o 0 (fj l i).length]) (sd @a3) ⟨o,by rw[jK,<-nR];rfl,by rw[jK,<-nR];simp only[go_sem, ↓reduceIte,Nat.reduceEqDiff,Nat.reduceAdd,Nat.reduceSub,Nat.reduceLeDiff,reduceCtorEq,ag],aH,aH,.inl Rr,fun x hx _=>sd (eF x hx)⟩
theorem BY {s:au} {l:List aa}:jY s l=0↔mj s/\gx s.aD l/\ir s.bH.aj l=true:=by
 unfold jY
 cases b:Cr s l
 ·simp;intro h1 h2;exact absurd (tQ.2 ⟨h1,h2⟩) (by rw[b];simp)
 ·obtain⟨h1,h2⟩:=tQ.1 b
  cases ir s.bH.aj l<;>simp[h1,h2]
structure Wr2 (g:Rows) (n:Nat) (A S C c T O:Id) (s:au) (l:List aa):Prop where
 a:∃b,g A=some ⟨b,1,[[.sl (l.map ab)]]⟩
 sy:∃b,g S=some ⟨b,4,[ck s]⟩
 p:∃b,g C=some ⟨b,1,[[.ptr c 0 0]]⟩
 xO:A9 g n c T O s l
 av:A.bq<n
 sv:S.bq<n
 pv:C.bq<n
end Go.Proofs.YtainmfbpilopaaaGreatDoor.V

namespace Go.Proofs.YtainmfbpilopaaaGreatDoor.V
open Go.RowKit
variable {P:Program}
theorem od {xs:List AV} {w:World} {D:Nat->Prop} {ι:Names} {a:AV} {v:Value} {vs:Array Value} (h:lr P w D a v) (k:fY P w D ι xs vs):fY P w D ι (a::xs) (#[v]++vs):=
 qD (xs:=[a]) ⟨rfl,fun j b hj=>by
  cases j with
  |zero=>simp at hj;subst hj;exact⟨v,rfl,.eX _ _ h⟩
  |succ j=>simp at hj⟩ k
end Go.Proofs.YtainmfbpilopaaaGreatDoor.V

namespace Go.Proofs.YtainmfbpilopaaaGreatDoor.V
open Go.RowKit Go.Shelf
attribute [local go_sem] Oper.semAt_some
structure rK (W:World) (v:Value) (l:List aa):Prop where
 sl:∃A c,v=.slice A l.length c/\(l.length<=c/\c<=maxLen)/\(l=[]∨∃b o,A=some ⟨b,o,none⟩/\∀i,i<l.length->W.cell? ⟨b,o+(i*3+0),none⟩=some (.int .i64 (aA l i).aI.eV)/\W.cell? ⟨b,o+(i*3+1),none⟩=some (.int .i64 (aA l i).aI.eQ)/\W.cell? ⟨b,o+(i*3+2),none⟩=some (.int .i64 (aA l i).aY))
structure LW (K:World->World->Prop) (v:Value) (l:List aa):Prop where
 refl:∀W,K W W
 trans:∀{A B C:World},K A B->K B C->K A C
 of:∀{W W':World},Below W.heap.size W W'->K W W'
 size:∀{W W':World},K W W'->W.heap.size<=W'.heap.size
 typed:∀{W W':World},K W W'->∀(b:Nat) (cells:Array Value) (T:TypeId) (fr:Nat×Nat),W.heap[b]? =some (Obj.cells cells T fr)->T≠217->T≠266->W'.heap[b]? =W.heap[b]?
 pl:∀{W W':World},K W W'->rK W v l->rK W' v l
theorem xM {W:World} {b x:Nat} {v:Value} (h:W.cell? ⟨b,x,none⟩=some v):b<W.heap.size:=by
 rcases Nat.lt_or_ge b W.heap.size with h1|h1
 ·exact h1
 ·simp[World.cell?,Array.getElem?_eq_none h1]at h
theorem rK.below {W W':World} {v:Value} {l:List aa} (h:rK W v l) (k:Below W.heap.size W W'):rK W' v l:=by
 obtain⟨A,c,rfl,hm,hc⟩:=h.sl
 refine⟨A,c,rfl,hm,?_⟩
 rcases hc with h0|⟨b,o,rfl,nf⟩
 ·exact .inl h0
 ·refine .inr ⟨b,o,rfl,fun i hi=>?_⟩
  obtain⟨h1,h2,h3⟩:=nf i hi
  have hb:=xM h1
  exact⟨(k.cell (p:=⟨b,_,none⟩) hb).trans h1,(k.cell (p:=⟨b,_,none⟩) hb).trans h2,(k.cell (p:=⟨b,_,none⟩) hb).trans h3⟩
theorem rK.eX {P:Program} {W:World} {v:Value} {l:List aa} (h:rK W v l):lr P W (fun b=>b<W.heap.size) (.sl (l.map ab)) v:=by
 obtain⟨A,c,rfl,hm,hc⟩:=h.sl
 rcases hc with rfl|⟨b,o,rfl,nf⟩
 ·exact .D6 A c (by simpa using hm.2)
 by_cases O9:l=[]
 ·subst O9;exact .D6 _ c (by simpa using hm.2)
 ·have kH:0<l.length:=List.length_pos_iff.2 O9
  have hb:=xM (nf 0 kH).1
  refine .sl (l.map ab) b o l.length c 3 (fun i j=>if j=0 then .int .i64 (aA l i).aI.eV else if j=1 then .int .i64 (aA l i).aI.eQ else .int .i64 (aA l i).aY) (by simp) hm.1 hm.2 hb (fun cs ek=>?_) (fun cs ek a ha=>?_) (fun i j hi hj=>?_) (fun i j cs a hi hj=>?_)
  ·obtain⟨x,_,rfl⟩:=List.mem_map.1 ek;rfl
  ·obtain⟨x,_,rfl⟩:=List.mem_map.1 ek
   simp[ab]at ha
   rcases ha with rfl|rfl|rfl<;>rfl
  ·obtain⟨h1,h2,h3⟩:=nf i hi
   match j,hj with
   |0,_=>exact h1
   |1,_=>exact h2
   |2,_=>exact h3
   |j+3,hj=>omega
  ·have nR:i<l.length:=by have:=(List.getElem?_eq_some_iff.1 hi).1;simpa using this
   rw[fM nR]at hi
   injection hi with hi
   subst hi
   match j,hj with
   |0,hj=>simp[ab]at hj;subst hj;exact .int _ _
   |1,hj=>simp[ab]at hj;subst hj;exact .int _ _
   |2,hj=>simp[ab]at hj;subst hj;exact .int _ _
   |j+3,hj=>simp[ab]at hj
theorem Ev {P:Program} (hm:P.follows .mixedOrders=true) {f:Nat} {args:List AV} {vs:Array Value} {w:World} {r:AV} (h:aw P f args r) (hr:∀g r0,iu g 6 r0=some r->r0=r) (hA:fY P w (fun b=>b<w.heap.size) (fun _=>none) args vs):
  Calls P f vs w fun e w'=>∃D ι u,e=.returned u/\du P w' D ι r u/\Below w.heap.size w w':=by
 have hs:=iP hm (h 0) w.heap.size (fun b=>b<w.heap.size) (fun _=>none) w vs ⟨Nat.le_refl _,fun _ h=>h,fun id r h=>(by cases h),fun id lG r r' B B' h=>(by cases h)⟩ (fun id h=>absurd rfl h) hA
 refine hs.mono ?_
 rintro e w' ⟨r0,g',n',D',ι',u,rfl,⟨r',hz,rfl⟩,ed,hsim,_,_,jd⟩
 have:=hr _ _ hz
 subst this
 exact⟨D',ι',u,rfl,jd,ed.below⟩
theorem qn {g:Rows} {n:Nat} {a:AV} {k:IntKind} {m:Int} (h:iu g (n+1) a=some (.int k m)):a=.int k m:=by
 cases a<;>rw[iu]at h<;>simp_all
 all_goals (repeat' (split at h))<;>simp_all
theorem Hg {g:Rows} {a:AV} {x y:Int} (h:iu g 6 a=some (.agg [.int .i64 x,.int .i64 y])):a=.agg [.int .i64 x,.int .i64 y]:=by
 cases a with
 |agg cs=>
  rw[l5]at h
  simp only[Option.map_eq_some_iff,AV.agg.injEq,exists_eq_right]at h
  match cs,h with
  |[],h=>rw[cw]at h;simp at h
  |[a],h=>
   rw[bx,cw]at h
   cases ha:iu g 5 a<;>simp[ha]at h
  |[a,b],h=>
   rw[bx,bx,cw]at h
   cases ha:iu g 5 a<;>cases hb:iu g 5 b<;>simp[ha,hb]at h
   obtain⟨rfl,rfl⟩:=h
   rw[qn ha,qn hb]
  |a::b::c::r,h=>
   rw[bx,bx,bx]at h
   cases ha:iu g 5 a<;>cases hb:iu g 5 b<;>cases hc:iu g 5 c<;>cases hd:eY g 5 r<;>simp[ha,hb,hc,hd]at h
 |_=>rw[iu]at h<;>simp_all<;>(repeat' (split at h))<;>simp_all
theorem H9 (W:World) (p:ai) (d:Int) (hd:ik d 0 3=true) (hx:iB p.eV) (hy:iB p.eQ):Calls Tryz.prog 200 #[.agg #[.int .i64 p.eV,.int .i64 p.eQ],.int .i64 d] W fun e W'=>e=.returned (.agg #[.int .i64 (bc p d).eV,.int .i64 (bc p d).eQ])/\Below W.heap.size W W':=by
 refine(Ev mixed (DF p d hd hx hy) (fun g r0 h=>Hg h) ?_:Calls _ _ _ _ _).mono ?_
 ·exact od (vs:= #[.int .i64 d]) (.agg _ _ (fun j=>if j=0 then .int .i64 p.eV else .int .i64 p.eQ) rfl (fun a ha=>by simp[ad]at ha;rcases ha with rfl|rfl<;>rfl) (fun j hj=>by match j,hj with|0,_=>rfl|1,_=>rfl|j+2,hj=>simp[ad]at hj;omega) (fun j a ha=>by match j,ha with|0,ha=>simp[ad]at ha;subst ha;exact .int _ _|1,ha=>simp[ad]at ha;subst ha;exact .int _ _|j+2,ha=>simp[ad]at ha)) (od (vs:= #[]) (.int _ _) zV)
 ·rintro e W' ⟨D,ι,u,rfl,hr,hB⟩
  refine⟨?_,hB⟩
  obtain⟨vs,f,rfl,ew,_,h1,h2⟩:=jo hr
  have v0:=h1 0 (by simp[ad])
  have v1:=h1 1 (by simp[ad])
  rw[eb (h2 0 _ rfl)]at v0
  rw[eb (h2 1 _ rfl)]at v1
  obtain⟨vl⟩:=vs
  match vl,ew with
  |[a,b],_=>
   simp at v0 v1
   rw[v0,v1]
theorem AZ (W:World) (l:List aa) (v:Value) (hP:rK W v l) (p:ai) (hR:jk l) (PS:l.length<=1048576):Calls Tryz.prog 258 #[.agg #[v],.agg #[.int .i64 p.eV,.int .i64 p.eQ]] W fun e W'=>e=.returned (.int .i64 (dm l p))/\Below W.heap.size W W':=by
 refine(Ev mixed (K0 l p hR PS) (fun g r0 h=>qn h) ?_:Calls _ _ _ _ _).mono ?_
 ·exact od (vs:= #[.agg #[.int .i64 p.eV,.int .i64 p.eQ]]) (.agg _ _ (fun _=>v) rfl (fun a ha=>by simp at ha;rw[ha];rfl) (fun j hj=>by match j,hj with|0,_=>rfl|j+1,hj=>simp at hj) (fun j a ha=>by match j,ha with|0,ha=>simp at ha;subst ha;exact hP.eX|j+1,ha=>simp at ha)) (od (vs:= #[]) (.agg _ _ (fun j=>if j=0 then .int .i64 p.eV else .int .i64 p.eQ) rfl (fun a ha=>by simp[ad]at ha;rcases ha with rfl|rfl<;>rfl) (fun j hj=>by match j,hj with|0,_=>rfl|1,_=>rfl|j+2,hj=>simp[ad]at hj;omega) (fun j a ha=>by match j,ha with|0,ha=>simp[ad]at ha;subst ha;exact .int _ _|1,ha=>simp[ad]at ha;subst ha;exact .int _ _|j+2,ha=>simp[ad]at ha)) zV)
 ·rintro e W' ⟨D,ι,u,rfl,hr,hB⟩
  exact⟨by rw[eb hr],hB⟩
theorem grown_of {W W':World} (h:Below W.heap.size W W'):W.grownBy W' none:=⟨h.os,h.tape,h.output,h.size,fun k hk _=>h.block k hk⟩
def FQ (l:List aa) (i:Nat) (d:Int):List (Nat×Nat×Int):=if 0<=dm l (bc (aA l i).aI d)then[(i,(dm l (bc (aA l i).aI d)).toNat,d)]else[]
def mB (l:List aa) (i m:Nat):List (Nat×Nat×Int):=(List.range m).flatMap fun j:Nat=>FQ l i (1-(j:Int))
def mV (l:List aa) (n:Nat):List (Nat×Nat×Int):=(List.range n).flatMap fun i=>mB l i 2
theorem n9 (l:List aa) (n:Nat):mV l (n+1)=mV l n++mB l n 2:=by simp[mV,List.range_succ]
theorem oQ (l:List aa) (i m:Nat):mB l i (m+1)=mB l i m++FQ l i (1-(m:Int)):=by simp[mB,List.range_succ]
theorem Ui (l:List aa) {k m:Nat} (hk:k<l.length) (hm:m<=2):mV l k++mB l k m <+:mV l l.length:=by
 have h1:∀d,mV l k <+:mV l (k+d):=fun d=>by
  induction d with
  |zero=>exact List.prefix_refl _
  |succ d ih=>rw[<-Nat.add_assoc,n9 l (k+d)];exact ih.trans (List.prefix_append _ _)
 have h2:∀d,mV l (k+1) <+:mV l (k+1+d):=fun d=>by
  induction d with
  |zero=>exact List.prefix_refl _
  |succ d ih=>rw[<-Nat.add_assoc,n9 l (k+1+d)];exact ih.trans (List.prefix_append _ _)
 have h3:=h2 (l.length-(k+1))
 rw[show k+1+(l.length-(k+1))=l.length by omega,n9]at h3
 refine List.IsPrefix.trans ?_ h3
 have h4:mB l k m <+:mB l k 2:=by
  have:m=0∨m=1∨m=2:=ae
  rcases this with rfl|rfl|rfl
  ·exact List.nil_prefix
  ·rw[oQ l k 1];exact List.prefix_append _ _
  ·exact List.prefix_refl _
 exact(List.prefix_append_right_inj _).2 h4
def Wg (l:List aa) (x:Nat×Nat×Int):Prop:=x.1<l.length/\x.2.1<l.length/\(0<=x.2.2/\x.2.2<=1)/\(x.2.1:Int)=dm l (bc (aA l x.1).aI x.2.2)
def IJ (x:Nat×Nat×Int):Array Value:= #[.agg #[.int .i64 (x.1:Int),.int .i64 (x.2.1:Int)],.int .i64 x.2.2]
theorem Qe (l:List aa) (p:ai) (h:0<l.length:=by omega):dm l p<(l.length:Int):=by
 unfold dm
 split<;>omega
theorem XV (l:List aa) (hA:kc l) (q Ba:Nat) (vS:Value) (K:World->World->Prop) (kl:LW K vS l) (J Jx:List (Nat×Nat×Int)->World->Prop) (n:Nat) (hn:1<=n)
  (hY:∀pre x W,J pre W->pre.length<(mV l l.length).length->Wg l x->YieldAt Fence.wide (n-1) Tryz.prog q (IJ x) W fun e W'=>
   (e=.returned (.bool true)/\J (pre++[x]) W'/\K W W')∨(e=.returned (.bool false)/\Jx (pre++[x]) W'))
  (W:World) (hJ:AbidesFrom W.heap.size J) (Tf:W.heap[Ba]? =some (.cells #[vS] 31 (0,0))) (hP:rK W vS l) (h0:J [] W):
  CallsIn Fence.wide n Tryz.prog 257 #[.func (.yield q) #[] #[],.pointer (some ⟨Ba,0,none⟩)] W fun e W'=>(∃v,e=.returned v)/\
   ((∃ys,ys=mV l l.length/\J ys W')∨(∃pre,pre <+:mV l l.length/\Jx pre W')):=by
 obtain⟨A,cp,rfl,_,_⟩:=hP.sl
 refine callsIn_of_wp Tryz.func257 rfl trivial ?_ rfl
 simp only[Tryz.ntmps257,List.size_toArray,List.length_cons,List.length_nil,Nat.reduceAdd,Nat.reduceSub,Array.replicate_succ,Array.replicate_zero,List.push_toArray,List.append_toArray,List.nil_append,List.cons_append]
 have kZ:W.cell? ⟨Ba,0,none⟩=some (.slice A l.length cp):=by simp[World.cell?,Tf]
 gi_wp2
 gi_loopw [11] (fun i wr=>∃k:Nat,k<=l.length/\i=.int .i64 k/\J (mV l k) wr/\K W wr)
  (fun i _=>l.length-(intOf i).toNat)
 case atStart=>exact⟨0,Nat.zero_le _,rfl,h0,kl.refl _⟩
 case round=>
  obtain⟨k,hk,rfl,WJ,hKt⟩:=hrel
  by_cases eG:k<l.length
  ·have ek:∃b o,A=some ⟨b,o,none⟩/\wr.cell? ⟨b,o+k*3,none⟩=some (.int .i64 (aA l k).aI.eV)/\wr.cell? ⟨b,o+k*3+1,none⟩=some (.int .i64 (aA l k).aI.eQ)/\wr.cell? ⟨b,o+k*3+2,none⟩=some (.int .i64 (aA l k).aY):=by
    obtain⟨A',c',hv,_,hc⟩:=(kl.pl hKt hP).sl
    cases hv
    rcases hc with rfl|⟨b,o,rfl,nf⟩
    ·simp at eG
    ·obtain⟨h1,h2,h3⟩:=nf k eG
     exact⟨b,o,rfl,by simpa using h1,by rw[Nat.add_assoc];exact h2,by rw[Nat.add_assoc];exact h3⟩
   obtain⟨b,o,rfl,hx,Zl,ht⟩:=ek
   gi_wp2
   obtain⟨W2,WT⟩:∃W2,(wr.alloc (.cells #[.int .i64 (aA l k).aI.eV,.int .i64 (aA l k).aI.eQ,.int .i64 (aA l k).aY] 64)).alloc (.cells #[.int .i64 1,.int .i64 0] 2)=W2:=⟨_,rfl⟩
   have lx:Below wr.heap.size wr W2:=by rw[<-WT];exact((Below.refl _ wr).alloc (Nat.le_refl _) _).alloc (by simp) _
   have hHt:W2.heap[wr.heap.size]? =some (.cells #[.int .i64 (aA l k).aI.eV,.int .i64 (aA l k).aI.eQ,.int .i64 (aA l k).aY] 64 (0,0)):=by
    rw[<-WT,Below.heap_alloc _ _ _ (by simp)];exact World.alloc_heap_new _ _
   have hHd:W2.heap[wr.heap.size+1]? =some (.cells #[.int .i64 1,.int .i64 0] 2 (0,0)):=by
    have:=World.alloc_heap_new (wr.alloc (.cells #[.int .i64 (aA l k).aI.eV,.int .i64 (aA l k).aI.eQ,.int .i64 (aA l k).aY] 64)) (.cells #[.int .i64 1,.int .i64 0] 2)
    rw[World.size_alloc]at this
    rw[<-WT];exact this
   have VP:K W W2:=kl.trans hKt (kl.of lx)
   have hJ2:J (mV l k++mB l k 0) W2:=by
    have:=hJ _ _ _ none WJ (grown_of lx) (fun r h=>by cases h)
    simpa[mB]using this
   rw[WT]
   clear WT
   generalize wr=w1 at *
   gi_loopw [18] (fun j wr=>∃m:Nat,m<=2/\j=.int .i64 m/\J (mV l k++mB l k m) wr/\K W2 wr)
    (fun j _=>2-(intOf j).toNat)
   case atStart=>exact⟨0,ae,rfl,hJ2,kl.refl _⟩
   case round=>
    obtain⟨m,hm,rfl,hJm,RA⟩:=hrel
    have TF:m=0∨m=1∨m=2:=ae
    by_cases Hw:m<2
    ·have hkd:=kl.typed RA _ _ _ _ hHd (by decide) (by decide)
     have O8:=kl.typed RA _ _ _ _ hHt (by decide) (by decide)
     have hka:=kl.typed (kl.trans VP RA) _ _ _ _ Tf (by decide) (by decide)
     have cd:wr.cell? ⟨w1.heap.size+1,m,none⟩=some (.int .i64 (1-(m:Int))):=by
      rw[World.cell?_of_block hkd]
      rcases TF with rfl|rfl|rfl
      ·simp[World.cell?,hHd]
      ·simp[World.cell?,hHd]
      ·omega
     have ct0:wr.cell? ⟨w1.heap.size,0,none⟩=some (.int .i64 (aA l k).aI.eV):=by rw[World.cell?_of_block O8];simp[World.cell?,hHt]
     have ct1:wr.cell? ⟨w1.heap.size,1,none⟩=some (.int .i64 (aA l k).aI.eQ):=by rw[World.cell?_of_block O8];simp[World.cell?,hHt]
     have ca:wr.cell? ⟨Ba,0,none⟩=some (.slice (some ⟨b,o,none⟩) l.length cp):=by rw[World.cell?_of_block hka];simp[World.cell?,Tf]
     have hPw:rK wr (.slice (some ⟨b,o,none⟩) l.length cp) l:=kl.pl (kl.trans VP RA) hP
     have hba:Ba<wr.heap.size:=by
      have h1:=(Array.getElem?_eq_some_iff.1 Tf).1
      have h2:=kl.size (kl.trans VP RA)
      omega
     have hdm:ik (1-(m:Int)) 0 3=true:=jU ae
     have C6:=oR (hA.pt eG)
     have C7:=fun w0=>H9 w0 (aA l k).aI (1-(m:Int)) hdm C6.1 C6.2
     have hPd:rK wr.drew (.slice (some ⟨b,o,none⟩) l.length cp) l:=hPw.below ⟨rfl,rfl,rfl,Nat.le_refl _,fun _ _=>rfl⟩
     have cad:wr.drew.cell? ⟨Ba,0,none⟩=some (.slice (some ⟨b,o,none⟩) l.length cp):=ca
     have ctd0:wr.drew.cell? ⟨w1.heap.size,0,none⟩=some (.int .i64 (aA l k).aI.eV):=ct0
     have ctd1:wr.drew.cell? ⟨w1.heap.size,1,none⟩=some (.int .i64 (aA l k).aI.eQ):=ct1
     have YT:=hA.pL
     have Xl:=hA.xY
     have hmix:=mixed
     gi_wp2
     gi_region_with_o (first|(refine⟨trivial,?_⟩;gi_at_call 200;refine(callsIn_wide.2 (C7 _)).mono ?_;rintro e w3 ⟨rfl,EW⟩;have ca3:=(EW.cell (p:=⟨Ba,0,none⟩) hba).trans cad)|(refine⟨trivial,?_⟩;gi_at_call 258;refine(callsIn_wide.2 (AZ _ l _ (hPd.below EW) (bc (aA l k).aI (1-(m:Int))) Xl ae)).mono ?_;rintro e w4 ⟨rfl,YE⟩))
     all_goals
      have Td:Below wr.heap.size wr w4:=(show Below wr.heap.size wr wr.drew from⟨rfl,rfl,rfl,Nat.le_refl _,fun _ _=>rfl⟩).trans (EW.trans (YE.mono EW.size))
      have hJ4:J (mV l k++mB l k m) w4:=hJ _ _ _ none hJm (grown_of Td) (fun r h=>by cases h)
      have AP:=Ui l eG (m:=m+1) ae
      rw[oQ,<-List.append_assoc]at AP
      have qv:=oQ l k m
      have hw:wrap64 ((m:Int)+1)=((m+1:Nat):Int):=by unfold wrap64;omega
      by_cases C3:0<=dm l (bc (aA l k).aI (1-(m:Int)))
      ·have gV:((dm l (bc (aA l k).aI (1-(m:Int)))).toNat:Int)=dm l (bc (aA l k).aI (1-(m:Int))):=ae
       rw[FQ,if_pos C3]at AP qv
       obtain⟨fn,tmps,assign,body,hy,hR⟩:=hY _ (k,(dm l (bc (aA l k).aI (1-(m:Int)))).toNat,1-(m:Int)) w4 hJ4 (by
        have:=AP.length_le
        simp only[List.length_append,List.length_cons,List.length_nil]at this ⊢
        omega) ⟨eG,by
        have:dm l (bc (aA l k).aI (1-(m:Int)))<(l.length:Int):=Qe _ _
        show(dm l (bc (aA l k).aI (1-(m:Int)))).toNat<l.length
        omega,⟨by show 0<=1-(m:Int);omega,by show 1-(m:Int)<=1;omega⟩,gV⟩
       simp only[IJ,gV]at hy
       gi_wp2
       refine hR.mono ?_
       rintro e W3 (⟨rfl,hJ3,AO⟩|⟨rfl,hJx3⟩)
       ·gi_wp2
        go_roundw
        case rel=>exact⟨m+1,ae,by simp,by rw[qv,<-List.append_assoc];exact hJ3,kl.trans (kl.trans RA (kl.of Td)) AO⟩
        case measure=>simp[intOf];omega
       ·gi_wp2
        refine bodyPost_ret (results_none rfl _ _ _) rfl ?_
        exact⟨⟨_,rfl⟩,.inr ⟨_,AP,hJx3⟩⟩
      ·rw[FQ,if_neg C3,List.append_nil]at qv
       gi_wp2
       refine⟨fun _ h=>(by cases h),?_⟩
       gi_wp2
       go_roundw
       case rel=>exact⟨m+1,ae,by simp,by rw[qv];exact hJ4,kl.trans RA (kl.of Td)⟩
       case measure=>simp[intOf];omega
    ·obtain rfl:m=2:=ae
     have YT:=hA.pL
     gi_wp2
     go_roundw
     case rel=>exact⟨k+1,ae,by simp,by rw[n9];exact hJm,kl.trans VP RA⟩
     case measure=>simp[intOf];omega
  ·obtain rfl:k=l.length:=ae
   gi_wp2
   go_end0
   exact⟨⟨_,rfl⟩,.inl ⟨_,rfl,WJ⟩⟩
theorem Dm (n:Nat) (vS:Value) (w:World):CallsIn Fence.wide n Tryz.prog 219 #[.agg #[vS]] w fun e w'=>e=.returned (.func (.func 257) #[] #[.pointer (some ⟨w.heap.size,0,none⟩)])/\w'=w.alloc (.cells #[vS] 31):=by
 refine callsIn_of_wp Tryz.func219 rfl trivial ?_ rfl
 simp only[Tryz.ntmps219,List.size_toArray,List.length_cons,List.length_nil,Nat.reduceAdd,Nat.reduceSub,Array.replicate_succ,Array.replicate_zero,List.push_toArray,List.append_toArray,List.nil_append,List.cons_append]
 gi_wp2
 go_ret
 exact⟨rfl,rfl⟩
abbrev Sr (l:List aa):Type:={x:Nat×Nat×Int // Wg l x}
theorem NC (l:List aa) (hA:kc l) (Ba n:Nat) (hn:1<=n) (vS:Value) (K:World->World->Prop) (kl:LW K vS l) (w:World) (Tf:w.heap[Ba]? =some (.cells #[vS] 31 (0,0))) (hP:rK w vS l):
  SeqStopsK Fence.wide n Tryz.prog 257 #[.pointer (some ⟨Ba,0,none⟩)] (fun x:Sr l=>IJ x.1) K (fun ys=>ys.map (·.1)=mV l l.length) (fun _=>True) (mV l l.length).length w:=fun q J Jx W hW hJ _ hY h0=>by
 refine(XV l hA q Ba vS K kl (fun ys W=>∃zs:List (Sr l),zs.map (·.1)=ys/\J zs W) (fun ys W=>∃zs:List (Sr l),zs.map (·.1)=ys/\Jx zs W) n hn (fun pre x W1 hJ1 eG C4=>?_) W (fun s A B row ⟨zs,e,h⟩ hg hr=>⟨zs,e,hJ zs A B row h hg hr⟩) ((hW.block Ba (Array.getElem?_eq_some_iff.1 Tf).1).trans Tf) (hP.below hW) ⟨[],rfl,h0⟩).mono ?_
 ·obtain⟨zs,rfl,h1⟩:=hJ1
  refine YieldAt.mono (hY zs ⟨x,C4⟩ W1 h1 (by simpa using eG)) ?_
  rintro e W' (⟨h2,h3,h4⟩|⟨h2,h3⟩)
  ·exact .inl ⟨h2,⟨zs++[⟨x,C4⟩],by simp,h3⟩,h4⟩
  ·exact .inr ⟨h2,⟨zs++[⟨x,C4⟩],by simp,h3⟩⟩
 ·rintro e W' ⟨h1,⟨ys,rfl,zs,h2,h3⟩|⟨pre,_,zs,h2,h3⟩⟩
  ·exact⟨h1,.inl ⟨zs,h2,h3⟩⟩
  ·exact⟨h1,.inr ⟨zs,trivial,h3⟩⟩
def Cy (s:az) (l:List aa) (x:Nat×Nat×Int):List PB:=if 0<gh s (aA l x.1).aY x.2.2 (aA l x.2.1).aY then[⟨x.1,x.2.1,gh s (aA l x.1).aY x.2.2 (aA l x.2.1).aY⟩]else[]
theorem Ml (s:az) (l:List aa):dg s l=(mV l l.length).flatMap (Cy s l):=by
 have h1:∀i d,gi s l i d=(FQ l i d).flatMap (Cy s l):=fun i d=>by
  unfold gi FQ
  by_cases h:0<=dm l (bc (aA l i).aI d)
  ·rw[if_pos h]
   simp only[List.flatMap_cons,List.flatMap_nil,List.append_nil,Cy]
   by_cases h2:0<gh s (aA l i).aY d (aA l (dm l (bc (aA l i).aI d)).toNat).aY
   ·rw[if_pos ⟨h,h2⟩,if_pos h2]
   ·rw[if_neg fun hc=>h2 hc.2,if_neg h2]
  ·rw[if_neg h,if_neg fun hc=>h hc.1];rfl
 unfold dg lv mV
 rw[List.flatMap_assoc]
 congr 1
 funext i
 unfold gQ mB
 rw[List.flatMap_assoc]
 congr 1
 funext j
 exact h1 i _
end Go.Proofs.YtainmfbpilopaaaGreatDoor.V

namespace Go.Proofs.YtainmfbpilopaaaGreatDoor.V
open Go.RowKit
attribute [local irreducible] ea wpOps fB Call
def Dy (bs:List PB):AV:=if bs=[]then .bj else .sl (bs.map di)
theorem QU:Dy []=.bj:=rfl
theorem Dz {bs:List PB} (h:0<bs.length):Dy bs=.sl (bs.map di):=by
 unfold Dy
 rw[if_neg (by rintro rfl;simp at h)]
theorem AH (cnt:Nat) (sC:1<=cnt) (hn:cnt<=1048576) (bs:List PB) (hb:∀b∈bs,b.a<cnt/\b.b<cnt) (hp:0<bs.length) (iz:bs.length<=1048576) (t:Int):aw Tryz.prog 172 [.int .i64 cnt,.sl (bs.map di),.int .i64 t] (.fP [.int .i64 (leads cnt (fe (bW t bs))).length,Dy (ep (fe (bW t bs)) bs)]):=by
 refine aw.body fx rfl fun hl n0=>?_
 clear hl
 (try((repeat(revert N;apply Pn.out));refine wk @Nat.zero_add ?_;(repeat(apply Pn.mk;intro N hN))))
 refine .inr (ay _ _ _ _ _ (fun r σ1 hq=>?_) (Mn bs hp iz _))
 obtain⟨o,rfl,ho,P5,P6,W7⟩:=hq
 (try dsimp only at ho P5 P6 W7)
 apply hN
 clear hN N
 (try((repeat(revert N;apply Pn.out));refine wk @Nat.zero_add ?_;(repeat(apply Pn.mk;intro N hN))))
 refine .inr (ay _ _ _ _ _ (fun r σ2 hq=>?_) (JX bs t iz o ⟨172000000,n0⟩ _ ho (by rw[W7 _ aH];simp only[go_sem, ↓reduceIte,Nat.reduceEqDiff,Nat.reduceAdd,Nat.reduceSub,Nat.reduceLeDiff,reduceCtorEq]) aH aH (by rintro rfl;simp only at P5;omega)))
 obtain⟨rows,rfl,fE,hrt,Gy,td,W8⟩:=hq
 (try dsimp only at td W8)
 apply hN
 clear hN N
 have LH:=yW cnt sC hn (bW t bs) (fun b h=>hb b (Ie h)) (by have:=Af t bs;omega)
 have hL:=zj (bW t bs)
 have hz:∀x,eI (eD σ2.get) 6 [.int .i64 x,.own o 0 (bW t bs).length]=some [.int .i64 x,.sl ((bW t bs).map di)]:=fun x=>by
  have:V.fz (eD σ2.get) 6 (.own o 0 (bW t bs).length)=some (.sl ((bW t bs).map di)):=by
   rw[qV];simp only[eD,fE,Option.map_some,if_true]
   rw[if_pos ae,List.drop_zero,hrt,sZ fun b=>CP _ 4 b];rfl
  simp only[aq,ar,aV,this,Option.map_some]
 (try((repeat(revert N;apply Pn.out));refine wk @Nat.zero_add ?_;(repeat(apply Pn.mk;intro N hN))))
 refine .inl ⟨_,aw.x LH (hz _),?_⟩
 apply hN
 clear hN N
 generalize fe (bW t bs)=L at *
 have Ar:((jI cnt L).map Mp).length=(leads cnt L).length:=by simp[jI]
 have hld:=nV cnt L
 have kZ:(0:Int)<=(cnt:Int):=ae
 have sq:(cnt:Int)<=((16777216:Nat):Int):=ae
 have jd:List.replicate cnt [AV.int .i64 0]=gZ (eR cnt L 0 0) cnt:=by rw[Gh,xi]
 (try((repeat(revert N;apply Pn.out));refine wk (tw @kZ (tw @sq (tw @Int.le_refl (tw @Ar @jd)))) ?_;(repeat(apply Pn.mk;intro N hN))))
 refine cm (fun n env st=>∃i:Nat,n=((leads cnt L).length)-i/\i<=((leads cnt L).length)/\env 27=.int .i64 (i:Int)/\st.get ⟨172002001,σ2.next+1⟩=some ⟨true,1,gZ (eR cnt L i 0) cnt⟩/\(σ2.next+1<st.next)) ((leads cnt L).length) ⟨0,ae,ae,sl (tw @jd @Ar),sl (tw @jd @Ar),aH⟩ ?_
 rintro n_c env_c st_c ⟨i,rfl,cle,c27,cg0,cI0⟩ kE
 have c1:=kE 1 (by kernel_rfl);have c8:=kE 8 (by kernel_rfl);have c9:=kE 9 (by kernel_rfl);have AE:=kE 25 (by kernel_rfl);have AF:=kE 26 (by kernel_rfl)
 simp only[go_sem, ↓reduceIte,Nat.reduceEqDiff,Nat.reduceAdd,Nat.reduceSub,Nat.reduceLeDiff,reduceCtorEq,jd,Ar]at c1 c8 c9 AE AF
 clear kE
 by_cases hi:(i:Int)<((leads cnt L).length:Int)
 ·have jv:∀{e:Env} {gg:Rows} {nx:Nat},(e 27=.int .i64 (IntKind.i64.wrap ((i:Int)+1)))->(gg ⟨172002001,σ2.next+1⟩=some ⟨true,1,gZ (eR cnt L (i+1) 0) cnt⟩)->(σ2.next+1<nx)->∃m0,m0<((leads cnt L).length)-i/\∃i:Nat,m0=((leads cnt L).length)-i/\i<=((leads cnt L).length)/\e 27=.int .i64 (i:Int)/\gg ⟨172002001,σ2.next+1⟩=some ⟨true,1,gZ (eR cnt L i 0) cnt⟩/\(σ2.next+1<nx):=fun x1 x2 x3=>⟨_,ae,i+1,rfl,ae,(by rw[x1,bf ae]),x2,x3⟩
  have gV:i<(leads cnt L).length:=ae
  have jt:((jI cnt L).map Mp)[i]? =some (Mp (members cnt L (leads cnt L)[i])):=by simp[jI,gV]
  have qW:(leads cnt L).getD i 0=(leads cnt L)[i]:=by simp[List.getD_eq_getElem?_getD,gV]
  have pz:∀m,eR cnt L i m=fun x=>if dV L x<i then dV L x else if x∈(members cnt L (leads cnt L)[i]).take m then i else 0:=fun m=>by unfold eR;rw[qW]
  have y5:=fun x (hx:x<cnt)=>wv hL (n:=cnt) (k:=x) (i:=i) hx gV
  have sD:(members cnt L (leads cnt L)[i]).Nodup:=List.nodup_range.filter _
  have Xn:∀x∈members cnt L (leads cnt L)[i],x<cnt:=fun x hx=>(nj.1 hx).1
  have hMc:(members cnt L (leads cnt L)[i]).length<=cnt:=by
   have:=List.length_filter_le (fun k=>L k==(leads cnt L)[i]) (List.range cnt)
   simpa[members]using this
  generalize members cnt L (leads cnt L)[i]=M at *
  have Kf:(M.map eN).length=M.length:=by simp
  (try((repeat(revert N;apply Pn.out));refine wk (tw @c27 (tw @cg0 (tw @c1 (tw @c8 (tw @c9 (tw @AE (tw @AF (tw @hi (tw @Ar (tw @jt (tw @Mp.eq_1 @Kf))))))))))) ?_;(repeat(apply Pn.mk;intro N hN))))
  refine cm (fun n env st=>∃m:Nat,n=(M.length)-m/\m<=(M.length)/\env 34=.int .i64 (m:Int)/\st.get ⟨172002001,σ2.next+1⟩=some ⟨true,1,gZ (eR cnt L i m) cnt⟩/\(σ2.next+1<st.next)) (M.length) ⟨0,ae,ae,sl (tw @c27 (tw @cg0 (tw @c1 (tw @c8 (tw @c9 (tw @AE (tw @AF @Kf))))))),sl (tw @c27 (tw @cg0 (tw @c1 (tw @c8 (tw @c9 (tw @AE (tw @AF @Kf))))))),aH⟩ ?_
  rintro n_d env_d st_d ⟨m,rfl,dle,d34,dg0,dI0⟩ dfr
  have d1:=dfr 1 (by kernel_rfl);have d8:=dfr 8 (by kernel_rfl);have d9:=dfr 9 (by kernel_rfl);have d10:=dfr 10 (by kernel_rfl);have d25:=dfr 25 (by kernel_rfl);have d26:=dfr 26 (by kernel_rfl);have d27:=dfr 27 (by kernel_rfl);have d32:=dfr 32 (by kernel_rfl);have d33:=dfr 33 (by kernel_rfl)
  simp only[go_sem, ↓reduceIte,Nat.reduceEqDiff,Nat.reduceAdd,Nat.reduceSub,Nat.reduceLeDiff,reduceCtorEq,c27,cg0,c1,c8,c9,AE,AF,Kf]at d1 d8 d9 d10 d25 d26 d27 d32 d33
  clear dfr
  have tl:=kz (eR cnt L i m) cnt
  by_cases hm:(m:Int)<(M.length:Int)
  ·have NG:∀{e:Env} {gg:Rows} {nx:Nat},(e 34=.int .i64 (IntKind.i64.wrap ((m:Int)+1)))->(gg ⟨172002001,σ2.next+1⟩=some ⟨true,1,gZ (eR cnt L i (m+1)) cnt⟩)->(σ2.next+1<nx)->∃m0,m0<(M.length)-m/\∃m:Nat,m0=(M.length)-m/\m<=(M.length)/\e 34=.int .i64 (m:Int)/\gg ⟨172002001,σ2.next+1⟩=some ⟨true,1,gZ (eR cnt L i m) cnt⟩/\(σ2.next+1<nx):=fun x1 x2 x3=>⟨_,ae,m+1,rfl,ae,(by rw[x1,bf ae]),x2,x3⟩
   have Kn:m<M.length:=ae
   have xb:(M.map eN)[m]? =some (eN M[m]):=by simp[Kn]
   have Hz:=Xn _ (List.getElem_mem Kn)
   have RW:(M[m]:Int)<(cnt:Int):=ae
   have Ks:=jQ (f:=eR cnt L i m) Hz
   have gF:(gZ (eR cnt L i m) cnt).set M[m] (eN i)=gZ (eR cnt L i (m+1)) cnt:=xZ Hz (by
    have h1:=(y5 _ Hz).1 (List.getElem_mem Kn)
    rw[pz]
    simp only[]
    rw[if_neg ae,if_pos (by rw[List.take_succ_eq_append_getElem Kn];exact List.mem_append_right _ (List.mem_singleton.2 rfl))]) fun x hx iI=>by
    rw[pz,pz]
    simp only[]
    rw[List.take_succ_eq_append_getElem Kn]
    simp only[List.mem_append,List.mem_singleton,iI,or_false]
   rw[eN]at gF Ks
   generalize M[m]=xm at *
   (try((repeat(revert N;apply Pn.out));refine wk (tw @d34 (tw @dg0 (tw @d1 (tw @d8 (tw @d9 (tw @d10 (tw @d25 (tw @d26 (tw @d27 (tw @d32 (tw @d33 (tw @hm (tw @hi (tw @xb (tw @Kf (tw @RW (tw @Ks (tw @tl (tw @gF @eN.eq_1))))))))))))))))))) ?_;(repeat(apply Pn.mk;intro N hN))))
   refine NG ?_ ?_ aH
   all_goals simp only[go_sem, ↓reduceIte,Nat.reduceEqDiff,Nat.reduceAdd,Nat.reduceSub,Nat.reduceLeDiff,reduceCtorEq,d34,dg0,d1,d8,d9,d10,d25,d26,d27,d32,d33,gF]
  ·have fc:m=M.length:=ae
   subst fc
   have qv:gZ (eR cnt L i M.length) cnt=gZ (eR cnt L (i+1) 0) cnt:=mg fun x hx=>by
    rw[pz,List.take_length]
    simp only[eR,List.take_zero,List.not_mem_nil,if_false]
    have h1:=y5 x hx
    by_cases h2:dV L x<i
    ·rw[if_pos h2,if_pos ae]
    ·rw[if_neg h2]
     by_cases h3:x∈M
     ·rw[if_pos h3,if_pos (by have:=h1.1 h3;omega),h1.1 h3]
     ·rw[if_neg h3,if_neg fun h4=>h3 (h1.2 ae)]
   (try((repeat(revert N;apply Pn.out));refine wk (tw @d34 (tw @dg0 (tw @d1 (tw @d8 (tw @d9 (tw @d10 (tw @d25 (tw @d26 (tw @d27 (tw @d32 (tw @d33 (tw @hm (tw @hi (tw @Ar @Kf)))))))))))))) ?_;(repeat(apply Pn.mk;intro N hN))))
   refine jv ?_ ?_ aH
   all_goals simp only[go_sem, ↓reduceIte,Nat.reduceEqDiff,Nat.reduceAdd,Nat.reduceSub,Nat.reduceLeDiff,reduceCtorEq,c27,cg0,c1,c8,c9,AE,AF,d34,dg0,d1,d8,d9,d10,d25,d26,d27,d32,d33,qv]
 have nR:i=(leads cnt L).length:=ae
 subst nR
 have ly:gZ (eR cnt L (leads cnt L).length 0) cnt=gZ (dV L) cnt:=mg fun x hx=>by rw[eR,if_pos (nZ hL hx)]
 rw[ly]at cg0
 have tl:=kz (dV L) cnt
 have YN:(bs.map di).length=bs.length:=by simp
 (try((repeat(revert N;apply Pn.out));refine wk (tw @c27 (tw @cg0 (tw @c1 (tw @c8 (tw @c9 (tw @AE (tw @AF (tw @hi (tw @Ar @YN))))))))) ?_;(repeat(apply Pn.mk;intro N hN))))
 have hcn:σ2.next+1<st_c.next:=cI0
 refine cm (fun n env st=>∃j:Nat,n=(bs.length)-j/\j<=(bs.length)/\env 46=.int .i64 (j:Int)/\st.get ⟨172002001,σ2.next+1⟩=some ⟨true,1,gZ (dV L) cnt⟩/\(st_c.next<=st.next/\((ep L (bs.take j)=[]/\env 14=.bj)∨∃p:Id,env 14=.own p 0 (ep L (bs.take j)).length/\st.get p=some ⟨true,3,(ep L (bs.take j)).map di⟩/\st_c.next<=p.bq/\p.bq<st.next/\0<(ep L (bs.take j)).length))) (bs.length) ⟨0,ae,ae,sl (tw @c27 (tw @cg0 (tw @c1 (tw @c8 (tw @c9 (tw @AE (tw @AF @YN))))))),sl (tw @c27 (tw @cg0 (tw @c1 (tw @c8 (tw @c9 (tw @AE (tw @AF @YN))))))),⟨aH,.inl ⟨rfl,by(simp only[go_sem, ↓reduceIte,Nat.reduceEqDiff,Nat.reduceAdd,Nat.reduceSub,Nat.reduceLeDiff,reduceCtorEq])⟩⟩⟩ ?_
 rintro n_f env_f st_f ⟨j,rfl,fle,f46,fg0,fI0⟩ ffr
 have f1:=ffr 1 (by kernel_rfl);have f8:=ffr 8 (by kernel_rfl);have f9:=ffr 9 (by kernel_rfl);have f44:=ffr 44 (by kernel_rfl);have f45:=ffr 45 (by kernel_rfl)
 simp only[go_sem, ↓reduceIte,Nat.reduceEqDiff,Nat.reduceAdd,Nat.reduceSub,Nat.reduceLeDiff,reduceCtorEq,c27,cg0,c1,c8,c9,AE,AF,YN]at f1 f8 f9 f44 f45
 clear ffr
 obtain⟨RG,fO⟩:=fI0
 have RV:=bZ (i:=⟨172002001,σ2.next+1⟩) (n:=st_f.next) aH
 have qZ:=(Ac L (bs.take j)).1
 rw[List.length_take]at qZ
 by_cases hj:(j:Int)<(bs.length:Int)
 ·have NH:∀{e:Env} {gg:Rows} {nx:Nat},(e 46=.int .i64 (IntKind.i64.wrap ((j:Int)+1)))->(gg ⟨172002001,σ2.next+1⟩=some ⟨true,1,gZ (dV L) cnt⟩)->(st_c.next<=nx/\((ep L (bs.take (j+1))=[]/\e 14=.bj)∨∃p:Id,e 14=.own p 0 (ep L (bs.take (j+1))).length/\gg p=some ⟨true,3,(ep L (bs.take (j+1))).map di⟩/\st_c.next<=p.bq/\p.bq<nx/\0<(ep L (bs.take (j+1))).length))->∃m0,m0<(bs.length)-j/\∃j:Nat,m0=(bs.length)-j/\j<=(bs.length)/\e 46=.int .i64 (j:Int)/\gg ⟨172002001,σ2.next+1⟩=some ⟨true,1,gZ (dV L) cnt⟩/\(st_c.next<=nx/\((ep L (bs.take j)=[]/\e 14=.bj)∨∃p:Id,e 14=.own p 0 (ep L (bs.take j)).length/\gg p=some ⟨true,3,(ep L (bs.take j)).map di⟩/\st_c.next<=p.bq/\p.bq<nx/\0<(ep L (bs.take j)).length)):=fun x1 x2 x3=>⟨_,ae,j+1,rfl,ae,(by rw[x1,bf ae]),x2,x3⟩
  have pQ:j<bs.length:=ae
  have LG:(bs.map di)[j]? =some (di bs[j]):=by simp[pQ]
  have hbj:=hb _ (List.getElem_mem pQ)
  have hs:=Dx L (bs.take j) bs[j]
  rw[<-List.take_succ_eq_append_getElem pQ]at hs
  generalize bs[j]=b at *
  have hA:=jQ (f:=dV L) hbj.1
  have hB:=jQ (f:=dV L) hbj.2
  have Hp:(b.a:Int)<(cnt:Int):=ae
  have pN:(b.b:Int)<(cnt:Int):=ae
  rw[eN]at hA hB
  have e1:(ep L (bs.take j)).length+1<=16777216:=ae
  have fc:((ep L (bs.take j)).map di).length=(ep L (bs.take j)).length:=by simp
  by_cases he:dV L b.a=dV L b.b
  ·rw[if_pos he,List.append_nil]at hs
   have LF:decide ((dV L b.a:Int)=(dV L b.b:Int))=true:=decide_eq_true (by rw[he])
   (try((repeat(revert N;apply Pn.out));refine wk (tw @f46 (tw @fg0 (tw @f1 (tw @f8 (tw @f9 (tw @f44 (tw @f45 (tw @hj (tw @LG (tw @hA (tw @hB (tw @Hp (tw @pN (tw @tl (tw @LF (tw @RV (tw @di.eq_1 (tw @Bool.not_true @Bool.not_false)))))))))))))))))) ?_;(repeat(apply Pn.mk;intro N hN))))
   refine NH ?_ ?_ (by(try dsimp only);exact⟨ae,by
    rw[hs]
    rcases fO with⟨h1,h2⟩|⟨p,h1,h2,h3,h4,h5⟩
    ·exact .inl ⟨h1,sd @h2⟩
    ·have XE:=bZ h4
     exact .inr ⟨p,sd @h1,sd (tw @h2 @XE),h3,ae,h5⟩⟩)
   all_goals simp only[go_sem, ↓reduceIte,Nat.reduceEqDiff,Nat.reduceAdd,Nat.reduceSub,Nat.reduceLeDiff,reduceCtorEq,f46,fg0,f1,f8,f9,f44,f45,RV]
  ·rw[if_neg he]at hs
   have LF:decide ((dV L b.a:Int)=(dV L b.b:Int))=false:=decide_eq_false fun h=>he ae
   rcases fO with⟨h1,f14⟩|⟨p,f14,fg,hp1,RL,hp3⟩
   ·rw[h1]at hs
    (try((repeat(revert N;apply Pn.out));refine wk (tw @f46 (tw @fg0 (tw @f1 (tw @f8 (tw @f9 (tw @f44 (tw @f45 (tw @f14 (tw @hj (tw @LG (tw @hA (tw @hB (tw @Hp (tw @pN (tw @tl (tw @LF (tw @RV (tw @di.eq_1 (tw @Bool.not_true @Bool.not_false))))))))))))))))))) ?_;(repeat(apply Pn.mk;intro N hN))))
    refine NH ?_ ?_ (by(try dsimp only);exact⟨ae,.inr ⟨⟨172017015,st_f.next+1+1+1⟩,by rw[hs];simp only[go_sem, ↓reduceIte,Nat.reduceEqDiff,Nat.reduceAdd,Nat.reduceSub,Nat.reduceLeDiff,reduceCtorEq,List.nil_append,List.length_cons,List.length_nil],by rw[hs];simp only[go_sem, ↓reduceIte,Nat.reduceEqDiff,Nat.reduceAdd,Nat.reduceSub,Nat.reduceLeDiff,reduceCtorEq,di,List.nil_append,List.map_cons,List.map_nil],aH,aH,by rw[hs];simp⟩⟩)
    all_goals simp only[go_sem, ↓reduceIte,Nat.reduceEqDiff,Nat.reduceAdd,Nat.reduceSub,Nat.reduceLeDiff,reduceCtorEq,f46,fg0,f1,f8,f9,f44,f45,RV]
   ·have x1:=ei (a:=⟨172002001,σ2.next+1⟩) (b:=p) aH
    have XE:=bZ RL
    (try((repeat(revert N;apply Pn.out));refine wk (tw @f46 (tw @fg0 (tw @f1 (tw @f8 (tw @f9 (tw @f44 (tw @f45 (tw @f14 (tw @fg (tw @hj (tw @LG (tw @hA (tw @hB (tw @Hp (tw @pN (tw @tl (tw @LF (tw @x1 (tw @XE (tw @RV (tw @e1 (tw @fc (tw @di.eq_1 (tw @Bool.not_true @Bool.not_false)))))))))))))))))))))))) ?_;(repeat(apply Pn.mk;intro N hN))))
    refine NH ?_ ?_ (by(try dsimp only);exact⟨ae,.inr ⟨⟨172017015,st_f.next+1+1+1⟩,by rw[hs,List.length_append];simp only[go_sem, ↓reduceIte,Nat.reduceEqDiff,Nat.reduceAdd,Nat.reduceSub,Nat.reduceLeDiff,reduceCtorEq,List.length_cons,List.length_nil],by rw[hs,List.map_append,List.map_cons,List.map_nil];simp only[go_sem, ↓reduceIte,Nat.reduceEqDiff,Nat.reduceAdd,Nat.reduceSub,Nat.reduceLeDiff,reduceCtorEq,di],aH,aH,by rw[hs];simp⟩⟩)
    all_goals simp only[go_sem, ↓reduceIte,Nat.reduceEqDiff,Nat.reduceAdd,Nat.reduceSub,Nat.reduceLeDiff,reduceCtorEq,f46,fg0,f1,f8,f9,f44,f45,x1,RV]
 ·have iX:j=bs.length:=ae
  subst iX
  rw[List.take_length]at fO
  rcases fO with⟨h1,f14⟩|⟨p,f14,fg,hp1,RL,hp3⟩
  ·(try((repeat(revert N;apply Pn.out));refine wk (tw @f46 (tw @fg0 (tw @f1 (tw @f8 (tw @f9 (tw @f44 (tw @f45 (tw @f14 (tw @hj @Ar))))))))) ?_;(repeat(apply Pn.mk;intro N hN))))
   refine lY (.inl rfl) (r1:=.int .i64 ((leads cnt L).length:Int)) (sd @Nat.zero_add) (by simp only[go_sem, ↓reduceIte,Nat.reduceEqDiff,Nat.reduceAdd,Nat.reduceSub,Nat.reduceLeDiff,reduceCtorEq];rfl) ?_
   simp only[fo,bx,cw,ej,jH,h1,QU,Option.map_some]
  ·(try((repeat(revert N;apply Pn.out));refine wk (tw @f46 (tw @fg0 (tw @f1 (tw @f8 (tw @f9 (tw @f44 (tw @f45 (tw @f14 (tw @hj @Ar))))))))) ?_;(repeat(apply Pn.mk;intro N hN))))
   refine lY (.inl rfl) (r1:=.int .i64 ((leads cnt L).length:Int)) (sd @Nat.zero_add) (by simp only[go_sem, ↓reduceIte,Nat.reduceEqDiff,Nat.reduceAdd,Nat.reduceSub,Nat.reduceLeDiff,reduceCtorEq];rfl) ?_
   have h1:iu st_f.get 5 (.own p 0 (ep L bs).length)=some (.sl ((ep L bs).map di)):=eT (sz:=3) fg rfl fun b=>IT _ 3 b
   simp only[fo,bx,cw,ej,h1,Dz hp3,Option.map_some]
theorem AG (cnt:Nat) (sC:1<=cnt) (hn:cnt<=1048576) (t:Int):aw Tryz.prog 172 [.int .i64 cnt,.bj,.int .i64 t] (.fP [.int .i64 cnt,.bj]):=by
 refine aw.body fx rfl fun hl n0=>?_
 clear hl
 have h1:aw Tryz.prog 217 [.bj] .bj:=by
  refine aw.body fx rfl fun hl n0=>?_
  clear hl
  (try((repeat(revert N;apply Pn.out));refine wk @Nat.zero_add ?_;(repeat(apply Pn.mk;intro N hN))))
  exact F5 (.inl rfl) (r0:=.bj) (sd @Nat.zero_add) (jH _ _)
 have h2:aw Tryz.prog 216 [.bj,.fn 218 [.ef [.int .i64 t]]] .bj:=by
  have AN:=(BF [] t (by simp)).cut mixed (.bj (.same _ .nil))
  refine aw.body fx rfl fun hl n0=>?_
  clear hl
  (try((repeat(revert N;apply Pn.out));refine wk @Nat.zero_add ?_;(repeat(apply Pn.mk;intro N hN))))
  refine .inl ⟨_,aw.x AN (by simp only[aq,ar,aQ,cI,aP,List.all_cons,List.all_nil,AV.cell,Bool.and_true,if_true,Option.map_some]),?_⟩
  apply hN
  clear hN N
  have hd:decide (lQ (fun b:PB=>decide (b.s<t)) []= -1)=true:=rfl
  (try((repeat(revert N;apply Pn.out));refine wk @hd ?_;(repeat(apply Pn.mk;intro N hN))))
  exact F5 (.inl rfl) (r0:=.bj) (sd @Nat.zero_add) (jH _ _)
 have LH:=(yW cnt sC hn [] (fun b h=>by cases h) (by simp)).cut mixed (.same _ (.bj .nil))
 (repeat(first|((repeat(revert N;apply Pn.out));refine wk @Nat.zero_add ?_;(repeat(apply Pn.mk;intro N hN)))|((try apply Or.inl);refine⟨_,aw.x (h1) (sd @Nat.zero_add),?_⟩;apply hN;clear hN N)))
 refine .inl ⟨_,aw.x h2 ?_,?_⟩
 ·have:V.fz (eD (bI (fun _=>none) ⟨172000000,n0⟩ ⟨true,1,[[.int .i64 t]]⟩)) 5 (.ptr ⟨172000000,n0⟩ 0 0)=some (.ef [.int .i64 t]):=s5 (sz:=1) (rows:=[[.int .i64 t]]) (by simp[eD,bI]) rfl (by simp only[List.drop_zero,aq,ar,aV,Option.map_some])
  simp only[aq,ar,aQ,cI,this,List.all_cons,List.all_nil,AV.cell,Bool.and_true,if_true,Option.map_some]
 apply hN
 clear hN N
 have pN:fe ([]:List PB)=id:=rfl
 rw[pN]at LH
 have hL:kK id:=pN▸zj ([]:List PB)
 have VW:(leads cnt id).length=cnt:=by rw[leads,List.filter_eq_self.2 (fun a _=>by simp)];simp
 generalize (id:Nat->Nat)=L at *
 have Ar:((jI cnt L).map Mp).length=(leads cnt L).length:=by simp[jI]
 have hld:=nV cnt L
 have kZ:(0:Int)<=(cnt:Int):=ae
 have sq:(cnt:Int)<=((16777216:Nat):Int):=ae
 have jd:List.replicate cnt [AV.int .i64 0]=gZ (eR cnt L 0 0) cnt:=by rw[Gh,xi]
 (have zF:=tw @kZ (tw @sq (tw @Int.le_refl (tw @Ar @jd)));(repeat(first|((repeat(revert N;apply Pn.out));refine wk zF ?_;(repeat(apply Pn.mk;intro N hN)))|((try apply Or.inl);refine⟨_,aw.x (LH) (sd zF),?_⟩;apply hN;clear hN N)));try clear zF)
 refine cm (fun n env st=>∃i:Nat,n=((leads cnt L).length)-i/\i<=((leads cnt L).length)/\env 27=.int .i64 (i:Int)/\st.get ⟨172002001,n0+1+1⟩=some ⟨true,1,gZ (eR cnt L i 0) cnt⟩/\(n0+1+1<st.next)) ((leads cnt L).length) ⟨0,ae,ae,sl (tw @jd @Ar),sl (tw @jd @Ar),aH⟩ ?_
 rintro n_c env_c st_c ⟨i,rfl,cle,c27,cg0,cI0⟩ kE
 have c1:=kE 1 (by kernel_rfl);have c8:=kE 8 (by kernel_rfl);have c9:=kE 9 (by kernel_rfl);have AE:=kE 25 (by kernel_rfl);have AF:=kE 26 (by kernel_rfl)
 simp only[go_sem, ↓reduceIte,Nat.reduceEqDiff,Nat.reduceAdd,Nat.reduceSub,Nat.reduceLeDiff,reduceCtorEq,jd,Ar]at c1 c8 c9 AE AF
 clear kE
 by_cases hi:(i:Int)<((leads cnt L).length:Int)
 ·have jv:∀{e:Env} {gg:Rows} {nx:Nat},(e 27=.int .i64 (IntKind.i64.wrap ((i:Int)+1)))->(gg ⟨172002001,n0+1+1⟩=some ⟨true,1,gZ (eR cnt L (i+1) 0) cnt⟩)->(n0+1+1<nx)->∃m0,m0<((leads cnt L).length)-i/\∃i:Nat,m0=((leads cnt L).length)-i/\i<=((leads cnt L).length)/\e 27=.int .i64 (i:Int)/\gg ⟨172002001,n0+1+1⟩=some ⟨true,1,gZ (eR cnt L i 0) cnt⟩/\(n0+1+1<nx):=fun x1 x2 x3=>⟨_,ae,i+1,rfl,ae,(by rw[x1,bf ae]),x2,x3⟩
  have gV:i<(leads cnt L).length:=ae
  have jt:((jI cnt L).map Mp)[i]? =some (Mp (members cnt L (leads cnt L)[i])):=by simp[jI,gV]
  have qW:(leads cnt L).getD i 0=(leads cnt L)[i]:=by simp[List.getD_eq_getElem?_getD,gV]
  have pz:∀m,eR cnt L i m=fun x=>if dV L x<i then dV L x else if x∈(members cnt L (leads cnt L)[i]).take m then i else 0:=fun m=>by unfold eR;rw[qW]
  have y5:=fun x (hx:x<cnt)=>wv hL (n:=cnt) (k:=x) (i:=i) hx gV
  have sD:(members cnt L (leads cnt L)[i]).Nodup:=List.nodup_range.filter _
  have Xn:∀x∈members cnt L (leads cnt L)[i],x<cnt:=fun x hx=>(nj.1 hx).1
  have hMc:(members cnt L (leads cnt L)[i]).length<=cnt:=by
   have:=List.length_filter_le (fun k=>L k==(leads cnt L)[i]) (List.range cnt)
   simpa[members]using this
  generalize members cnt L (leads cnt L)[i]=M at *
  have Kf:(M.map eN).length=M.length:=by simp
  (try((repeat(revert N;apply Pn.out));refine wk (tw @c27 (tw @cg0 (tw @c1 (tw @c8 (tw @c9 (tw @AE (tw @AF (tw @hi (tw @Ar (tw @jt (tw @Mp.eq_1 @Kf))))))))))) ?_;(repeat(apply Pn.mk;intro N hN))))
  refine cm (fun n env st=>∃m:Nat,n=(M.length)-m/\m<=(M.length)/\env 34=.int .i64 (m:Int)/\st.get ⟨172002001,n0+1+1⟩=some ⟨true,1,gZ (eR cnt L i m) cnt⟩/\(n0+1+1<st.next)) (M.length) ⟨0,ae,ae,sl (tw @c27 (tw @cg0 (tw @c1 (tw @c8 (tw @c9 (tw @AE (tw @AF @Kf))))))),sl (tw @c27 (tw @cg0 (tw @c1 (tw @c8 (tw @c9 (tw @AE (tw @AF @Kf))))))),aH⟩ ?_
  rintro n_d env_d st_d ⟨m,rfl,dle,d34,dg0,dI0⟩ dfr
  have d1:=dfr 1 (by kernel_rfl);have d8:=dfr 8 (by kernel_rfl);have d9:=dfr 9 (by kernel_rfl);have d10:=dfr 10 (by kernel_rfl);have d25:=dfr 25 (by kernel_rfl);have d26:=dfr 26 (by kernel_rfl);have d27:=dfr 27 (by kernel_rfl);have d32:=dfr 32 (by kernel_rfl);have d33:=dfr 33 (by kernel_rfl)
  simp only[go_sem, ↓reduceIte,Nat.reduceEqDiff,Nat.reduceAdd,Nat.reduceSub,Nat.reduceLeDiff,reduceCtorEq,c27,cg0,c1,c8,c9,AE,AF,Kf]at d1 d8 d9 d10 d25 d26 d27 d32 d33
  clear dfr
  have tl:=kz (eR cnt L i m) cnt
  by_cases hm:(m:Int)<(M.length:Int)
  ·have NG:∀{e:Env} {gg:Rows} {nx:Nat},(e 34=.int .i64 (IntKind.i64.wrap ((m:Int)+1)))->(gg ⟨172002001,n0+1+1⟩=some ⟨true,1,gZ (eR cnt L i (m+1)) cnt⟩)->(n0+1+1<nx)->∃m0,m0<(M.length)-m/\∃m:Nat,m0=(M.length)-m/\m<=(M.length)/\e 34=.int .i64 (m:Int)/\gg ⟨172002001,n0+1+1⟩=some ⟨true,1,gZ (eR cnt L i m) cnt⟩/\(n0+1+1<nx):=fun x1 x2 x3=>⟨_,ae,m+1,rfl,ae,(by rw[x1,bf ae]),x2,x3⟩
   have Kn:m<M.length:=ae
   have xb:(M.map eN)[m]? =some (eN M[m]):=by simp[Kn]
   have Hz:=Xn _ (List.getElem_mem Kn)
   have RW:(M[m]:Int)<(cnt:Int):=ae
   have Ks:=jQ (f:=eR cnt L i m) Hz
   have gF:(gZ (eR cnt L i m) cnt).set M[m] (eN i)=gZ (eR cnt L i (m+1)) cnt:=xZ Hz (by
    have h1:=(y5 _ Hz).1 (List.getElem_mem Kn)
    rw[pz]
    simp only[]
    rw[if_neg ae,if_pos (by rw[List.take_succ_eq_append_getElem Kn];exact List.mem_append_right _ (List.mem_singleton.2 rfl))]) fun x hx iI=>by
    rw[pz,pz]
    simp only[]
    rw[List.take_succ_eq_append_getElem Kn]
    simp only[List.mem_append,List.mem_singleton,iI,or_false]
   rw[eN]at gF Ks
   generalize M[m]=xm at *
   (try((repeat(revert N;apply Pn.out));refine wk (tw @d34 (tw @dg0 (tw @d1 (tw @d8 (tw @d9 (tw @d10 (tw @d25 (tw @d26 (tw @d27 (tw @d32 (tw @d33 (tw @hm (tw @hi (tw @xb (tw @Kf (tw @RW (tw @Ks (tw @tl (tw @gF @eN.eq_1))))))))))))))))))) ?_;(repeat(apply Pn.mk;intro N hN))))
   refine NG ?_ ?_ aH
   all_goals simp only[go_sem, ↓reduceIte,Nat.reduceEqDiff,Nat.reduceAdd,Nat.reduceSub,Nat.reduceLeDiff,reduceCtorEq,d34,dg0,d1,d8,d9,d10,d25,d26,d27,d32,d33,gF]
  ·have fc:m=M.length:=ae
   subst fc
   have qv:gZ (eR cnt L i M.length) cnt=gZ (eR cnt L (i+1) 0) cnt:=mg fun x hx=>by
    rw[pz,List.take_length]
    simp only[eR,List.take_zero,List.not_mem_nil,if_false]
    have h1:=y5 x hx
    by_cases h2:dV L x<i
    ·rw[if_pos h2,if_pos ae]
    ·rw[if_neg h2]
     by_cases h3:x∈M
     ·rw[if_pos h3,if_pos (by have:=h1.1 h3;omega),h1.1 h3]
     ·rw[if_neg h3,if_neg fun h4=>h3 (h1.2 ae)]
   (try((repeat(revert N;apply Pn.out));refine wk (tw @d34 (tw @dg0 (tw @d1 (tw @d8 (tw @d9 (tw @d10 (tw @d25 (tw @d26 (tw @d27 (tw @d32 (tw @d33 (tw @hm (tw @hi (tw @Ar @Kf)))))))))))))) ?_;(repeat(apply Pn.mk;intro N hN))))
   refine jv ?_ ?_ aH
   all_goals simp only[go_sem, ↓reduceIte,Nat.reduceEqDiff,Nat.reduceAdd,Nat.reduceSub,Nat.reduceLeDiff,reduceCtorEq,c27,cg0,c1,c8,c9,AE,AF,d34,dg0,d1,d8,d9,d10,d25,d26,d27,d32,d33,qv]
 have nR:i=(leads cnt L).length:=ae
 subst nR
 have ly:gZ (eR cnt L (leads cnt L).length 0) cnt=gZ (dV L) cnt:=mg fun x hx=>by rw[eR,if_pos (nZ hL hx)]
 rw[ly]at cg0
 have tl:=kz (dV L) cnt
 (try((repeat(revert N;apply Pn.out));refine wk (tw @c27 (tw @cg0 (tw @c1 (tw @c8 (tw @c9 (tw @AE (tw @AF (tw @hi @Ar)))))))) ?_;(repeat(apply Pn.mk;intro N hN))))
 refine cm (fun n env st=>∃j:Nat,n=(0)-j/\j<=(0)/\env 46=.int .i64 (j:Int)/\env 14=.bj) (0) ⟨0,ae,ae,sl (tw @c27 (tw @cg0 (tw @c1 (tw @c8 (tw @c9 (tw @AE @AF)))))),sl (tw @c27 (tw @cg0 (tw @c1 (tw @c8 (tw @c9 (tw @AE @AF))))))⟩ ?_
 rintro n_f env_f st_f ⟨j,rfl,fle,f46,f14⟩ ffr
 have f8:=ffr 8 (by kernel_rfl);have f44:=ffr 44 (by kernel_rfl);have f45:=ffr 45 (by kernel_rfl)
 simp only[go_sem, ↓reduceIte,Nat.reduceEqDiff,Nat.reduceAdd,Nat.reduceSub,Nat.reduceLeDiff,reduceCtorEq,c27,cg0,c1,c8,c9,AE,AF]at f8 f44 f45
 clear ffr
 have hj:¬(j:Int)<((0:Nat):Int):=ae
 (try((repeat(revert N;apply Pn.out));refine wk (tw @f46 (tw @f14 (tw @f8 (tw @f44 (tw @f45 (tw @hj @Ar)))))) ?_;(repeat(apply Pn.mk;intro N hN))))
 refine lY (.inl rfl) (r1:=.int .i64 ((leads cnt L).length:Int)) (r2:=.bj) (sd @Nat.zero_add) (sd @Nat.zero_add) ?_
 simp only[fo,bx,cw,ej,jH,VW,Option.map_some]
theorem CH (cnt:Nat) (sC:1<=cnt) (hn:cnt<=1048576) (bs:List PB) (hb:∀b∈bs,b.a<cnt/\b.b<cnt) (iz:bs.length<=1048576) (t:Int):aw Tryz.prog 172 [.int .i64 cnt,Dy bs,.int .i64 t] (.fP [.int .i64 (leads cnt (fe (bW t bs))).length,Dy (ep (fe (bW t bs)) bs)]):=by
 cases bs with
 |nil=>
  have h:=AG cnt sC hn t
  have VW:(leads cnt (fe (bW t []))).length=cnt:=by
   show(leads cnt id).length=cnt
   rw[leads,List.filter_eq_self.2 (fun a _=>by simp)];simp
  rw[VW]
  exact h
 |cons b r=>
  rw[Dz (by simp)]
  exact AH cnt sC hn (b::r) hb (by simp) iz t
end Go.Proofs.YtainmfbpilopaaaGreatDoor.V

namespace Go.Proofs.YtainmfbpilopaaaGreatDoor.V
open Go.RowKit
attribute [local irreducible] ea wpOps fB Call
attribute [local go_sem] Jy
section
attribute [-go_sem] dp
theorem Qx (n:Nat) (hn:n<=1048576):aw Tryz.prog 314 [.int .u64 1,.int .u64 n] (.fP [.int .u64 0,.int .u64 n]):=by
 refine aw.body fx rfl fun hl n0=>?_
 clear hl
 have b1:(BitVec.ofInt 64 (n:Int)&&& BitVec.ofInt 64 4294967295).toNat=n:=by
  rw[BitVec.toNat_and]
  have e1:(BitVec.ofInt 64 (n:Int)).toNat=n:=by rw[BitVec.toNat_ofInt];omega
  have e2:(BitVec.ofInt 64 4294967295).toNat=2 ^ 32-1:=by decide
  rw[e1,e2]
  exact Nat.and_two_pow_sub_one_of_lt_two_pow ae
 have zn:IntKind.u64.wrap (n:Int)=n:=by rw[IntKind.wrap_u64];omega
 have i1:dp .and .u64 (n:Int) 4294967295=some (.int .u64 n):=by
  show some (AV.int .u64 (IntKind.u64.wrap (((BitVec.ofInt 64 (n:Int)&&& BitVec.ofInt 64 4294967295).toNat:Nat):Int)))= _
  rw[b1,zn]
 have i2:dp .and .u64 1 4294967295=some (.int .u64 1):=rfl
 have i3:dp .and .u64 0 4294967295=some (.int .u64 0):=rfl
 have i4:dp .mul .u64 1 (n:Int)=some (.int .u64 n):=by simp only[dp,Int.one_mul,zn]
 have i5:dp .mul .u64 0 (n:Int)=some (.int .u64 0):=by simp only[dp,Int.zero_mul];rfl
 have i6:dp .mul .u64 1 0=some (.int .u64 0):=rfl
 have i7:dp .mul .u64 0 0=some (.int .u64 0):=rfl
 have i8:dp .add .u64 0 0=some (.int .u64 0):=rfl
 have a3:Int.fdiv 1 (2 ^ min 32 64)=0:=by decide
 have a4:Int.fdiv (n:Int) (2 ^ min 32 64)=0:=by
  rw[Int.fdiv_eq_ediv_of_nonneg _ (by decide)]
  have h32:(2:Int) ^ min 32 64=4294967296:=by decide
  exact Int.ediv_eq_zero_of_lt ae ae
 have z1:Int.fdiv 0 (2 ^ min 32 64)=0:=by decide
 (try((repeat(revert N;apply Pn.out));refine wk (tw @i1 (tw @i2 (tw @i3 (tw @i4 (tw @i5 (tw @i6 (tw @i7 (tw @i8 (tw @a3 (tw @a4 @z1)))))))))) ?_;(repeat(apply Pn.mk;intro N hN))))
 refine lY (.inl rfl) (r1:=.int .u64 0) (r2:=.int .u64 n) (sd @Nat.zero_add) (sd @Nat.zero_add) ?_
 simp only[fo,bx,cw,ej,Option.map_some]
end
theorem XU (n:Nat) (hn:n<=1048576):aw Tryz.prog 306 [.int .u64 1,.int .u64 n] (.fP [.int .u64 0,.int .u64 n]):=by
 refine aw.body fx rfl fun hl n0=>?_
 clear hl
 have h:=Qx n hn
 (repeat(first|((repeat(revert N;apply Pn.out));refine wk @Nat.zero_add ?_;(repeat(apply Pn.mk;intro N hN)))|((try apply Or.inl);refine⟨_,aw.x (h) (sd @Nat.zero_add),?_⟩;apply hN;clear hN N)))
 refine lY (.inl rfl) (r1:=.int .u64 0) (r2:=.int .u64 n) (sd @Nat.zero_add) (sd @Nat.zero_add) ?_
 simp only[fo,bx,cw,ej,Option.map_some]
theorem N2 (cnt:Nat) (sC:1<=cnt) (hn:cnt<=1048576) (v:Int) (x:Id) (σ:ax) (hx:σ.get x=some ⟨true,1,[[.int .i64 v]]⟩) (Ng:x.bq<σ.next):
  Call Tryz.prog 283 [.own x 0 1,.int .i64 cnt] σ fun r σ'=>∃o:Id,r=.own o 0 cnt/\σ'.get o=some ⟨true,1,List.replicate cnt [.int .i64 v]⟩/\σ.next<=o.bq/\o.bq<σ'.next/\∀i:Id,i.bq<σ.next->σ'.get i=σ.get i:=by
 refine eZ fx rfl fun hl=>?_
 clear hl
 have h:=XU cnt hn
 have w1:IntKind.u64.wrap (cnt:Int)=cnt:=by rw[IntKind.wrap_u64];omega
 have w2:IntKind.i64.wrap (cnt:Int)=cnt:=OC ae
 have w0:IntKind.u64.wrap ((1:Nat):Int)=1:=by decide
 have g1:¬(cnt:Int)<0:=ae
 have g2:¬(9223372036854775807:Int)<cnt:=ae
 have kZ:(0:Int)<=(cnt:Int):=ae
 have sq:(cnt:Int)<=((16777216:Nat):Int):=ae
 have V2:=bZ Ng
 have Gy:(List.replicate cnt [AV.int .i64 0]).length=cnt:=List.length_replicate
 have m1:min 1 cnt=1:=ae
 (have zF:=tw @w0 (tw @w1 (tw @w2 (tw @g1 (tw @g2 (tw @kZ (tw @sq (tw @Int.le_refl (tw @Nat.le_refl (tw @hx (tw @V2 (tw @Gy @m1)))))))))));(repeat(first|((repeat(revert N;apply Pn.out));refine wk zF ?_;(repeat(apply Pn.mk;intro N hN)))|((try apply Or.inl);refine⟨_,aw.x (h) (sd zF),?_⟩;apply hN;clear hN N)));try clear zF)
 refine cm (fun m env st=>∃k:Nat,m=cnt-k/\1<=k/\k<=cnt/\env 8=.int .i64 (k:Int)/\st.get ⟨283006002,σ.next+1+1+1+1⟩=some ⟨true,1,List.replicate k [.int .i64 v]++List.replicate (cnt-k) [.int .i64 0]⟩/\σ.next+4<st.next/\∀i:Id,i.bq<σ.next->st.get i=σ.get i) (cnt-1) ⟨1,rfl,Nat.le_refl _,sC,by(simp only[go_sem, ↓reduceIte,Nat.reduceEqDiff,Nat.reduceAdd,Nat.reduceSub,Nat.reduceLeDiff,reduceCtorEq,m1])<;>rfl,?_,aH,fun i hi=>?_⟩ ?_
 ·simp only[go_sem, ↓reduceIte,Nat.reduceEqDiff,Nat.reduceAdd,Nat.reduceSub,Nat.reduceLeDiff,reduceCtorEq]
  rw[List.drop_replicate];rfl
 ·have TW:=bZ hi
  simp only[go_sem, ↓reduceIte,Nat.reduceEqDiff,Nat.reduceAdd,Nat.reduceSub,Nat.reduceLeDiff,reduceCtorEq,TW]
 rintro m env_b st_b ⟨k,rfl,uo,sr,b8,bg,bn,eS⟩ bkp
 have b7:=bkp 7 (by kernel_rfl)
 simp only[go_sem, ↓reduceIte,Nat.reduceEqDiff,Nat.reduceAdd,Nat.reduceSub,Nat.reduceLeDiff,reduceCtorEq]at b7
 clear bkp
 have Xz:(List.replicate k [AV.int .i64 v]++List.replicate (cnt-k) [AV.int .i64 0]).length=cnt:=by simp;omega
 by_cases hk:(k:Int)<(cnt:Int)
 ·have jg:k<cnt:=ae
  have xS:(k:Int)<=(cnt:Int):=ae
  have hw:IntKind.i64.wrap ((k:Int)+((min k (cnt-k):Nat):Int))=((k+min k (cnt-k):Nat):Int):=by rw[db ae];omega
  have oN:List.take k (List.replicate k [AV.int .i64 v]++List.replicate (cnt-k) [AV.int .i64 0])=List.replicate k [AV.int .i64 v]:=List.take_left' (by simp)
  have eJ:(List.replicate k [AV.int .i64 v]).all (fun c=>c.length==1&&c.all AV.cell)=true:=List.all_eq_true.2 fun c hc=>by rw[List.eq_of_mem_replicate hc];rfl
  have hlr:(List.replicate k [AV.int .i64 v]).length=k:=List.length_replicate
  have hsum:k+(cnt-k)=cnt:=ae
  have uq:List.replicate k [AV.int .i64 v]++List.take (min k (cnt-k)) (List.replicate k [AV.int .i64 v])++List.drop (k+min k (cnt-k)) (List.replicate k [AV.int .i64 v]++List.replicate (cnt-k) [AV.int .i64 0])=List.replicate (k+min k (cnt-k)) [AV.int .i64 v]++List.replicate (cnt-(k+min k (cnt-k))) [AV.int .i64 0]:=by
   rw[List.take_replicate,List.drop_append,List.drop_of_length_le (by simp),List.nil_append,hlr,List.drop_replicate,List.replicate_append_replicate]
   congr 2
   ·omega
   ·omega
  (try((repeat(revert N;apply Pn.out));refine wk (tw @b7 (tw @b8 (tw @bg (tw @Xz (tw @hk (tw @xS (tw @sr (tw @hw (tw @jg (tw @Nat.sub_zero (tw @oN (tw @eJ (tw @hlr (tw @hsum (tw @Nat.le_refl @uq))))))))))))))) ?_;(repeat(apply Pn.mk;intro N hN))))
  refine⟨_,?_,k+min k (cnt-k),rfl,ae,ae,sd @hw,sd @uq,aH,fun i hi=>?_⟩
  ·omega
  ·have TW:=bZ hi
   have:=eS i hi
   simp only[go_sem, ↓reduceIte,Nat.reduceEqDiff,Nat.reduceAdd,Nat.reduceSub,Nat.reduceLeDiff,reduceCtorEq,TW,this]
 ·have oy:k=cnt:=ae
  subst oy
  (try((repeat(revert N;apply Pn.out));refine wk (tw @b7 (tw @b8 (tw @bg (tw @Xz @hk)))) ?_;(repeat(apply Pn.mk;intro N hN))))
  refine eo (.inl rfl) (vs:=[.own ⟨283006002,σ.next+1+1+1+1⟩ 0 k]) (sd @Nat.zero_add) ⟨⟨283006002,σ.next+1+1+1+1⟩,rfl,by simp only[go_sem, ↓reduceIte,Nat.reduceEqDiff,Nat.reduceAdd,Nat.reduceSub,Nat.reduceLeDiff,reduceCtorEq,bg];simp,aH,aH,fun i hi=>eS i hi⟩
end Go.Proofs.YtainmfbpilopaaaGreatDoor.V
