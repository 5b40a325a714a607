/- The library's sort of placed tiles, brought into the small language. -/
import Derived.Test.YtgoljkjaameagaaGreatRsD
import Derived.Test.YtgoljkjaameagaaGreatRsB
import Derived.Test.YtgoljkjaameagaaGreatRsC
import Derived.Maps.RangeRun
import Derived.Test.YtgoljkjaameagaaGreatChecked
import Derived.RangeFuncNested
import Derived.RangeFuncBound
import Derived.RangeFuncCalls
import Derived.RangeFuncLeaves
import Derived.Shelf.Abstract
import Derived.Shelf.RegionOpen
import Derived.WalkKit
import Derived.OwnWalkIn
import Derived.TacticsInMore
import Derived.LoopNIn
import Derived.LoopIn
import Derived.BigQuiet
import Derived.RangeFuncBox
import Derived.RangeFuncWrites
import Derived.Maps.AppendAt
set_option linter.unusedVariables false
set_option linter.unusedSimpArgs false
set_option maxRecDepth 100000
set_option maxHeartbeats 16000000
namespace Go.Proofs.YtgoljkjaameagaaGreat.V
open Go.RowKit Go.Shelf Go.Lib Go.Sort
instance:Inhabited ad:=⟨⟨⟨0,0⟩,0⟩⟩
variable {P:Program} {w:World} {D:Nat->Prop} {ι:Names}
def Gq (a b:ad):Int:=r9 a.aP b.aP
theorem vw (a b:ad):ltOf Gq a b=jR a.aP b.aP:=by rw[ltOf,Gq,vz]
def Il:Prop:=∀(ye off cap:Nat) (d:Array ad) (w:World),HoldsK eX 3 w ye off d->ye<w.heap.size->d.size<4611686018427387904->
 Calls Tryz.prog 185 #[.slice (some ⟨ye,off,none⟩) d.size cap,.func (.func 186) #[] #[]] w fun e w'=>e=.returned (.tuple #[])/\∃d' n os,PermIn 0 d.size d d'/\SortedIn (ltOf Gq) 0 d.size d'/\w'=sortWorldK eX 3 w ye off n d' os
def Im:Prop:=∀(p:Option Addr) (cap:Nat) (fv:Value) (w:World),Calls Tryz.prog 185 #[.slice p 0 cap,fv] w fun e w'=>e=.returned (.tuple #[])/\w'=w
theorem II (p:ad) (j:Nat) (a:AV) (h:(aa p)[j]? =some a) (P:Program) (w:World) (D:Nat->Prop) (ι:Names):cL P w D ι a (eX p)[j]! :=by
 match j,h with
 |0,h=>simp[aa]at h;subst h;exact .eP _ _ (.int _ _)
 |1,h=>simp[aa]at h;subst h;exact .eP _ _ (.int _ _)
 |2,h=>simp[aa]at h;subst h;exact .eP _ _ (.int _ _)
 |j+3,h=>simp[aa]at h
theorem Hy (hC:Il) (hN:Im) (ps:List ad) (hlen:ps.length<=1048576) (σ:ar) (id:Id) (hg:σ.get id=some ⟨true,3,ps.map aa⟩):
  Call Tryz.prog 185 [.own id 0 ps.length,.fn 186 []] σ fun r σ'=>σ'.next=σ.next/\(∀x,x≠id->σ'.get x=σ.get x)/\∃qs,σ'.get id=some ⟨true,3,qs.map aa⟩/\qs.length=ps.length/\qs.Perm ps/\∀i j:Nat,i<j->j<qs.length->jR (aL qs j).aP (aL qs i).aP=false:=by
 refine gS fun hs D ι w vs S U A=>?_
 obtain⟨u1,us1,rfl,h1,h2⟩:=zE A
 obtain⟨u2,us2,h3,h4,h5⟩:=zE h2
 simp at h3;subst h3
 have:=Kb h5
 simp at this;subst this
 obtain⟨o,cap,B,rfl,hB,I6,ho,tD,hmax,hk⟩:=jb h1
 obtain⟨VK,gf,rfl,_,hz,_,_⟩:=AJ h4
 have hz':VK= #[]:=Array.eq_empty_of_size_eq_zero (by simpa using hz)
 subst hz'
 by_cases h0:ps=[]
 ·subst h0
  refine(hN _ _ _ w).mono ?_
  rintro e w' ⟨rfl,rfl⟩
  exact⟨.gO [],σ.get,σ.next,D,ι,_,rfl,⟨rfl,fun _ _=>rfl,[],hg,rfl,List.Perm.refl _,fun i j _ hj=>by simp at hj⟩,Step.refl _ _ _ _,S,U,Nat.le_refl _,.gO [] #[] (fun _=>Go.undef) rfl (fun j hj=>by simp at hj) (fun j a h=>by simp at h)⟩
 have kF:0<ps.length:=List.length_pos_iff.2 h0
 obtain⟨B',dD,R,kD,mM⟩:=S.row id _ hg
 rw[hB]at dD;injection dD with dD;subst dD
 replace R:=R.row hk
 have fw:B.sz=3:=R.sz
 have Di:o=0:=by rcases ho with h|h<;>omega
 subst Di
 obtain⟨cur,T,hblk,dx,FF⟩:=R.cur
 have B9:ps.length*3<=B.C:=by simpa using R.fits
 have hH:HoldsK eX 3 w B.b 0 ps.toArray:=by
  intro t ht
  rw[size_flatK]at ht
  have ht2:t<ps.length*3:=by simpa using ht
  have hi:t / 3<ps.length:=by omega
  have Df:w.frozen? ⟨B.b,0+t,none⟩=false:=by
   simp only[World.frozen?,hblk];simp
  refine⟨?_,Df⟩
  rw[get_flatK _ _ _ _ ht]
  have hd:(ps.toArray)[t / 3]! =ps[t / 3]:=by simp[getElem!_pos,hi]
  rw[hd]
  have hj:t % 3=0∨t % 3=1∨t % 3=2:=by omega
  have ht3:0+t=(t / 3)*3+t % 3:=by omega
  rw[ht3]
  rcases hj with hj|hj|hj
  ·obtain⟨v,hv,hr⟩:=R.at_ (t / 3) 0 (aa ps[t / 3]) _ (by simp[hi]) rfl
   rw[du hr]at hv
   rw[hj];exact hv
  ·obtain⟨v,hv,hr⟩:=R.at_ (t / 3) 1 (aa ps[t / 3]) _ (by simp[hi]) rfl
   rw[du hr]at hv
   rw[hj];exact hv
  ·obtain⟨v,hv,hr⟩:=R.at_ (t / 3) 2 (aa ps[t / 3]) _ (by simp[hi]) rfl
   rw[du hr]at hv
   rw[hj];exact hv
 have qC:B.b<w.heap.size:=(Array.getElem?_eq_some_iff.1 hblk).1
 have Rh:=hC B.b 0 cap ps.toArray w hH qC (by simp;omega)
 rw[show ps.toArray.size=ps.length from by simp]at Rh
 refine Rh.mono ?_
 rintro e w' ⟨rfl,d',m,os,⟨FN,_,FK⟩,hsort,rfl⟩
 have Rn:d'.size=ps.length:=by rw[FN];simp
 have hql:d'.toList.length=ps.length:=by simpa using Rn
 have hP:d'.toList.Perm ps:=by
  have e1:d'.extract 0 ps.length=d':=by rw[<-Rn];exact Array.extract_size
  have e2:ps.toArray.extract 0 ps.length=ps.toArray:=by
   have:ps.length=ps.toArray.size:=by simp
   rw[this];exact Array.extract_size
  rw[e1,e2]at FK
  simpa using FK
 have hF:∀t,t<ps.length*3->(flatK eX 3 d')[t]! =(eX d'[t / 3]!)[t % 3]! :=fun t ht=>get_flatK _ _ _ _ (by rw[Rn];exact ht)
 have hFs:(flatK eX 3 d').size=ps.length*3:=by rw[size_flatK,Rn]
 have hw:sortWorldK eX 3 w B.b 0 m d' os=Go.Sort.grow (Go.Sort.putRow (fun v:Value=>v) (Go.Sort.ahead w m) B.b 0 (flatK eX 3 d')) os:=rfl
 rw[hw]
 clear hw hH
 generalize flatK eX 3 d'=Fl at hF hFs ⊢
 have w6:=S.put (r':=⟨true,3,d'.toList.map aa⟩) (cur':=Go.Sort.putCells (fun v:Value=>v) 0 Fl cur) hg rfl hB hblk (by simp[Go.Sort.putCells]) rfl rfl (by simpa[Rn]using B9) (fun cs dx=>by
   obtain⟨x,_,rfl⟩:=List.mem_map.1 dx;rfl) (fun cs dx a ha=>by
   obtain⟨x,_,rfl⟩:=List.mem_map.1 dx
   simp[aa]at ha;rcases ha with rfl|rfl|rfl<;>rfl) (fun i j cs a hi hj=>by
   have y7:i<d'.toList.length:=by
    have:=(List.getElem?_eq_some_iff.1 hi).1
    simpa using this
   have UZ:j<3:=by
    have:=List.mem_of_getElem? hi
    obtain⟨x,_,rfl⟩:=List.mem_map.1 this
    exact(List.getElem?_eq_some_iff.1 hj).1
   have LP:cs=aa d'[i]! :=by
    rw[List.getElem?_map,List.getElem?_eq_getElem y7]at hi
    simp at hi
    rw[<-hi,getElem!_pos d' i (by simpa using y7)]
   subst LP
   have Pc:i*3+j<ps.length*3:=by omega
   refine⟨(eX d'[i]!)[j]!,?_,II _ _ _ hj _ _ _ _⟩
   have nz:i*3+j<cur.size:=by rw[dx];omega
   show(Go.Sort.putCells (fun v:Value=>v) 0 Fl cur)[i*3+j]? = _
   simp only[Go.Sort.putCells,Array.getElem?_mapIdx,Array.getElem?_eq_getElem nz,Option.map_some]
   rw[if_pos ⟨Nat.zero_le _,by rw[hFs];omega⟩,Nat.sub_zero,hF _ Pc,show(i*3+j) / 3=i from by omega,show(i*3+j) % 3=j from by omega])
 obtain⟨S1,tg⟩:=w6
 have RN:(Go.Sort.putRow (fun v:Value=>v) (Go.Sort.ahead w m) B.b 0 Fl).heap.size=w.heap.size:=by simp
 have Ns:∀k,k<(w.setRow B.b (Go.Sort.putCells (fun v:Value=>v) 0 Fl cur)).heap.size->(Go.Sort.grow (Go.Sort.putRow (fun v:Value=>v) (Go.Sort.ahead w m) B.b 0 Fl) os).heap[k]? =(w.setRow B.b (Go.Sort.putCells (fun v:Value=>v) 0 Fl cur)).heap[k]? :=fun k hk=>by
  have GP:k<w.heap.size:=by simpa using hk
  rw[heap_grow_old _ _ (by rw[RN];exact GP)]
  simp only[Go.Sort.putRow,Go.Sort.mapBlock,heap_ahead,Array.getElem?_modify]
  by_cases U0:B.b=k
  ·subst U0
   rw[setRow_heap w B.b cur _ T _ hblk,if_pos rfl,hblk];rfl
  ·rw[if_neg U0,setRow_other w B.b k _ (fun h=>U0 h.symm)]
 have lH:(w.setRow B.b (Go.Sort.putCells (fun v:Value=>v) 0 Fl cur)).heap.size<=(Go.Sort.grow (Go.Sort.putRow (fun v:Value=>v) (Go.Sort.ahead w m) B.b 0 Fl) os).heap.size:=by
  rw[size_grow,RN];simp
 have S2:=S1.stay (D':=D) (ι':=ι) Ns lH (fun _ h=>h) (fun b hb=>Nat.lt_of_lt_of_le (S1.dead b hb) lH) (fun _ h=>.inl h) (fun _ _ h=>h)
 have NX:=tg.trans (Step.stay (D':=D) (ι':=ι) S1 Ns lH (by simp[Go.Sort.grow,Go.Sort.putRow,Go.Sort.mapBlock,Go.Sort.ahead]) (by simp[Go.Sort.grow,Go.Sort.putRow,Go.Sort.mapBlock,Go.Sort.ahead]) (by simp[Go.Sort.grow,Go.Sort.putRow,Go.Sort.mapBlock,Go.Sort.ahead]) (fun _ h=>h) (fun _ h=>.inl h) (fun _ _ h=>h))
 refine⟨.gO [],bt σ.get id ⟨true,3,d'.toList.map aa⟩,σ.next,D,ι,_,rfl,⟨rfl,fun x hx=>by simp[bt,hx],d'.toList,by simp[bt],hql,hP,fun i j D7 hj=>?_⟩,NX,S2,U,Nat.le_refl _,.gO [] #[] (fun _=>Go.undef) rfl (fun j hj=>by simp at hj) (fun j a h=>by simp at h)⟩
 have h:=hsort i j (Nat.zero_le _) D7 (by omega)
 rw[vw]at h
 have e1:d'[j]! =aL d'.toList j:=by rw[fm hj,getElem!_pos d' j (by simpa using hj)];rfl
 have hi:i<d'.toList.length:=by omega
 have e2:d'[i]! =aL d'.toList i:=by rw[fm hi,getElem!_pos d' i (by simpa using hi)];rfl
 rw[<-e1,<-e2];exact h
theorem NS {w w':World} (h:Grown w w') (os:Array Obj):Grown w (Go.Sort.grow w' os):=by
 obtain⟨q,os0,rfl⟩:=h
 exact⟨q,os0++os,by rw[grow_grow]⟩
theorem Lw (w:World) (a b:ad):Calls Tryz.prog 186 #[.agg #[.int .i64 a.aP.fb,.int .i64 a.aP.eV,.int .i64 a.aT],.agg #[.int .i64 b.aP.fb,.int .i64 b.aP.eV,.int .i64 b.aT]] w fun e w'=>e=.returned (.int .i64 (Gq a b))/\Grown w w':=by
 go_enter Tryz.func186,Tryz.ntmps186
 go_wp2_with (first|(go_at_call 154;refine(uU _ a.aP b.aP).mono ?_;rintro e w' ⟨rfl,hG⟩))
 obtain⟨q,os,rfl⟩:=hG
 go_ret
 refine⟨rfl,NS (Grown.dN ?_ q) os⟩
 repeat(first|(with_reducible exact Grown.refl _)|(refine Grown.alloc ?_ _)|(refine Grown.drew ?_)|(refine Grown.dN ?_ _))
theorem VJ:SWO (ltOf Gq) where
 irrefl x:=by rw[vw];exact nC
 trans x y z h1 h2:=by rw[vw]at *;exact jZ h1 h2
 ntrans x y z h1 h2:=by rw[vw]at *;rw[qa]at *;omega
theorem PH:Il:=fun ye off cap d w hH hblk fw=>by
 have eg:∀args w,(callFunc 186 args).run Tryz.prog w=.ok (.enter 186 args) w:=enters_of Tryz.func186 (by kernel_rfl) rfl
 have h:=AnyQ.slices_SortFunc Tryz.Kq 3 Tryz.isAgg171 Tryz.sizeOf171 eX (fun _=>rfl) (fun x v hv=>by simp[eX]at hv;rcases hv with rfl|rfl|rfl<;>rfl) Gq VJ 186 #[] ye off cap d w eg (fun m os dk _ x y=>(Lw _ x y).mono fun _ _ ⟨he,q,os',hw⟩=>⟨he,q,os',hw⟩) hH hblk fw
 exact h
theorem PI:Im:=fun p cap fv w=>AnyF.slices_SortFunc_none Tryz.Kq p cap fv w
end Go.Proofs.YtgoljkjaameagaaGreat.V

namespace Go.Proofs.YtgoljkjaameagaaGreat.V
open Go.RowKit
attribute [local irreducible] dL wpOps gC Call
attribute [local go_sem] aO fM eS ga fZ cU upd cD K.av cR AV.cells AV.cell rowOf rowsOf part ld rowAt bt cw dG ei iu bK dm eB fY e6 dt ep di dh dV dW bU bd cZ bQ db da ek er eo cY ck dj ej bP aQ dd cJ iq br cN bV aZ dr bc dH AV.undef bF bJ dX eh dR dO cK eA eC cI ev eu dc de List.getD_cons_zero List.getD_cons_succ List.getD_nil List.all_cons List.all_nil Bool.and_true Bool.true_and Bool.and_self Bool.not_true Bool.not_false Option.map_some Option.map_none Option.bind_some Option.bind_none List.length_cons List.length_nil List.take_succ_cons List.take_zero List.take_nil List.drop_succ_cons List.drop_zero List.drop_nil List.head?_cons List.map_cons List.map_nil List.getElem?_cons_zero List.getElem?_cons_succ List.cons_append List.nil_append List.append_nil List.length_map List.set_cons_zero List.set_cons_succ Nat.reduceMul eq_self Int.toNat_natCast Int.natCast_nonneg and_self true_and and_true decide_true decide_false Bool.false_eq_true Nat.zero_add Nat.add_zero List.contains_cons List.contains_nil Bool.or_false Bool.false_or beq_self_eq_true Nat.reduceBEq ne_eq not_true_eq_false not_false_eq_true Id.mk.injEq false_and and_false Nat.reduceLT Int.reduceLE Int.reduceLT Int.reduceToNat Int.reduceNeg Int.reduceAdd Nat.le_refl List.length_append beq_true beq_false Bool.not_eq_eq_eq_not or_false false_or dP ai aq aI bh bE cz aY bl aV bf cW bH
theorem Sg {σ:ar} {c T O:Id} {s:ax} {ts:List ad} (h:mc σ.get σ.next c T O s ts) (hS:iF s.aD) (hF:∀q,0<=gw ts q->eO s.aD (gw ts q)=true) (p:aH) (hp:CO p=true) (t:Int) (ht:eO s.aD t=true) (h0:eG ts p<0):
  Call Tryz.prog 100 [.ptr c 0 0,.agg (ah p),.int .i64 t] σ (fun r σ'=>r=.gO []/\mc σ'.get σ'.next c T O s (ts++[⟨p,t⟩])/\σ.next<=σ'.next/\∀x:Id,x.bW<σ.next->x≠T->x≠O->σ'.get x=σ.get x):=by
 refine eW eI rfl fun nB=>?_
 clear nB
 obtain⟨hx,hy⟩:=tR hp
 have lJ:=l5.1 h0
 have LL:∀q,0<=gw (ts++[⟨p,t⟩]) q->eO s.aD (gw (ts++[⟨p,t⟩]) q)=true:=fun q hq=>by
  rw[zR q lJ]at hq ⊢
  split at hq
  ·rename_i he;rw[if_pos he];exact ht
  ·rename_i he;rw[if_neg he];exact hF q hq
 obtain⟨rows,ho,hw⟩:=h.op
 obtain⟨fi,GN⟩:=CN hw p.fb p.eV
 have h1:=h.row
 have h2:=h.tl
 have v1:=dv h.cv
 have v2:=dv h.tv
 have v3:=dv h.ov
 have hm:=rF h0
 have cT:=eq_false h.cT
 have cO:=eq_false h.cO
 have TO:=eq_false h.TO
 have Tc:=eq_false (fun e:T=c=>h.cT e.symm)
 have Oc:=eq_false (fun e:O=c=>h.cO e.symm)
 have OT:=eq_false (fun e:O=T=>h.TO e.symm)
 (try((repeat(revert hN;revert N;apply Pn.out));refine wk (tw @h1 (tw @h2 (tw @ho (tw @v1 (tw @v2 (tw @v3 (tw @hm (tw @GN (tw @cT (tw @cO (tw @TO (tw @Tc (tw @Oc (tw @OT @ah.eq_1)))))))))))))) ?_;(repeat(refine Pn.mk ?_;intro N hN))))
 have hG:∀x:Id,x.bW<σ.next->x≠T->x≠O->(bt (bt (bt σ.get ⟨100000000,σ.next⟩ ⟨true,2,[[.int .i64 p.fb,.int .i64 p.eV]]⟩) T ⟨true,mP.qd,ts.map aa++[[.int .i64 p.fb,.int .i64 p.eV,.int .i64 t]]⟩) O ⟨true,mP.qd,dO rows fi⟩) x=σ.get x:=fun x Pg VA ND=>by
  have a1:=eq_false VA
  have a2:=eq_false ND
  have a3:=dv Pg
  simp only[go_sem, ↓reduceIte,Nat.reduceEqDiff,Nat.reduceAdd,Nat.reduceSub,Nat.reduceLeDiff,reduceCtorEq,a1,a2,a3]
 have hC:mc (bt (bt (bt σ.get ⟨100000000,σ.next⟩ ⟨true,2,[[.int .i64 p.fb,.int .i64 p.eV]]⟩) T ⟨true,mP.qd,ts.map aa++[[.int .i64 p.fb,.int .i64 p.eV,.int .i64 t]]⟩) O ⟨true,mP.qd,dO rows fi⟩) (σ.next+1+1+1+1) c T O s (ts++[⟨p,t⟩]):=
  ⟨(hG c h.cv h.cT h.cO).trans h1,by simp only[go_sem, ↓reduceIte,Nat.reduceEqDiff,Nat.reduceAdd,Nat.reduceSub,Nat.reduceLeDiff,reduceCtorEq,TO];rw[List.map_append];rfl,⟨_,sd @Nat.zero_add,J5 hw fi⟩,by have:=h.cv;omega,by have:=h.tv;omega,by have:=h.ov;omega,h.cT,h.cO,h.TO⟩
 refine .inr (aJ _ _ _ _ _ (fun r σ1 hq=>?_) (sw (σ:=⟨_,σ.next+1+1+1+1⟩) hC.xV hC.cO hC.TO hC.op hS LL p hx hy))
 obtain⟨g1,x1⟩:=σ1
 obtain⟨rfl,hL⟩:=hq
 (try dsimp only at hL)
 have I0:=hC.look (σ:=⟨_,σ.next+1+1+1+1⟩) hL
 have hn:=hL.1
 have hf:=hL.2.1
 (try dsimp only at hn hf)
 refine hN _ _ ?_
 clear hN N
 (try((repeat(revert hN;revert N;apply Pn.out));refine wk @Nat.zero_add ?_;(repeat(refine Pn.mk ?_;intro N hN))))
 exact ft (.inr rfl) (vs:=[]) rfl ⟨rfl,I0.frame (by(try dsimp only);omega) fun _ _=>rfl,by(try dsimp only);omega,fun x Pg VA ND=>(hf x (by omega) ND).trans (hG x Pg VA ND)⟩
end Go.Proofs.YtgoljkjaameagaaGreat.V

namespace Go.Proofs.YtgoljkjaameagaaGreat.V
open Go.RowKit
def CU (m:MK) (it nx ok en:Nat) (id:Id) (B:(Ex->Env->ar->Prop)->Env->ar->Prop) (b b1:Nat) (Q:Ex->Env->ar->Prop):Nat->List (List AV)->Env->ar->Prop
 |0,_,env,σ=>env it=.ptr id 0 0/\Q .normal (upd (upd env (some nx) (.gO [.bool false])) (some ok) (.bool false)) ⟨σ.get,σ.next+1⟩
 |n+1,left,env,σ=>env it=.ptr id 0 0/\∀i cs kv vv,left[i]? =some cs->part m.ka m.ks cs=some kv->cs[m.ks]? =some vv->
   B (bc b1 (dr (CU m it nx ok en id B b b1 Q n (left.eraseIdx i)) (bc b Q))) (upd (upd (upd env (some nx) (.gO [.bool true,kv,vv])) (some ok) (.bool true)) (some en) (.gO [kv,vv])) ⟨σ.get,σ.next+1⟩
def Hu (m:MK) (tm:O) (site it nx ok en:Nat) (B:(Ex->Env->ar->Prop)->Env->ar->Prop) (b b1:Nat) (Q:Ex->Env->ar->Prop) (env:Env) (σ:ar):Prop:=
 ∃id r,cU env tm=.map id m/\σ.get id=some r/\r.w=true/\CU m it nx ok en ⟨site,σ.next⟩ B b b1 Q r.rows.length r.rows (upd env (some it) (.ptr ⟨site,σ.next⟩ 0 0)) ⟨bt σ.get id {r with w:=false},σ.next+1⟩
variable {P:Program} {w w':World} {D D':Nat->Prop} {ι ι':Names} {hs:Nat} {g:Rows}
theorem jL.DP (hc:∀b x,D b->w'.cell? ⟨b,x,none⟩=w.cell? ⟨b,x,none⟩) {a:AV} {v:Value} (h:jL P w D a v):jL P w' D a v:=by
 induction h with
 |int k n=>exact .int k n
 |bool b=>exact .bool b
 |str s=>exact .str s
 |cC=>exact .cC
 |gY=>exact .gY
 |jh=>exact .jh
 |jo=>exact .jo
 |Bp a c h=>exact .Bp a c h
 |sl rows b o n c sz vs h1 h2 h3 h4 h5 h5' h6 _ ih=>exact .sl rows b o n c sz vs h1 h2 h3 h4 h5 h5' (fun i j hi hj=>(hc b _ h4).trans (h6 i j hi hj)) ih
 |dn cs b o vs h1 Ot h2 _ ih=>exact .dn cs b o vs h1 Ot (fun j hj=>(hc b _ h1).trans (h2 j hj)) ih
 |agg cs vs f h1 h2 h3 _ ih=>exact .agg cs vs f h1 h2 h3 ih
 |fn f cQ vs g h1 h2 h3 _ ih=>exact .fn f cQ vs g h1 h2 h3 ih
theorem cL.DP (hc:∀b x,D b->w'.cell? ⟨b,x,none⟩=w.cell? ⟨b,x,none⟩) {a:AV} {v:Value} (h:cL P w D ι a v):cL P w' D ι a v:=by
 induction h with
 |eP a v h=>exact .eP a v (h.DP hc)
 |map id m B h1 h2=>exact .map id m B h1 h2
 |r7 id c B h1 h2=>exact .r7 id c B h1 h2
 |own id off len o cap B h1 h2 h3 h4 h5 h6=>exact .own id off len o cap B h1 h2 h3 h4 h5 h6
 |ptr id i off B h1 h2=>exact .ptr id i off B h1 h2
 |agg cs vs f h1 h2 h3 _ ih=>exact .agg cs vs f h1 h2 h3 ih
 |gO cs vs f h1 h2 _ ih=>exact .gO cs vs f h1 h2 ih
 |fn f cQ vs g h1 h2 h3 _ ih=>exact .fn f cQ vs g h1 h2 h3 ih
 |uG f cQ vs g h1 h2 h3 _ ih=>exact .uG f cQ vs g h1 h2 h3 ih
def nq (w:World) (rr:Nat):Prop:=∃m s seen c,w.heap[rr]? =some (.mapIter m s seen c)
theorem nq.cell {rr:Nat} (h:nq w rr) (x:Nat):w.cell? ⟨rr,x,none⟩=none:=by
 obtain⟨m,s,seen,c,h⟩:=h
 simp[World.cell?,h]
theorem gR.JY {B:s9} {r:Row} (R:gR P w D ι B r):¬nq w B.b:=by
 rintro⟨m,s,seen,c,h⟩
 cases hk:B.k with
 |none=>obtain⟨c',T,h3,_⟩:=(R.row hk).ye;rw[h]at h3;cases h3
 |some k=>
  cases k with
  |map m=>obtain⟨_,es,c',h3,_⟩:=R.map m hk;rw[h]at h3;cases h3
  |chan c=>obtain⟨_,buf,s',q,h3,_⟩:=R.chan c hk;rw[h]at h3;cases h3
theorem zk {rr:Nat} (h:nq w rr) (h':nq w' rr) (ho:∀b,b≠rr->w'.heap[b]? =w.heap[b]?):(∀{a v},cL P w D ι a v->cL P w' D ι a v):=fun hr=>hr.DP fun b x _=>by
 by_cases hb:b=rr
 ·subst hb;rw[h.cell,h'.cell]
 ·exact World.cell?_of_block (ho b hb)
theorem gD.iter {rr:Nat} (S:gD P hs D ι g w) (h:nq w rr) (h':nq w' rr) (ho:∀b,b≠rr->w'.heap[b]? =w.heap[b]?) (hz:w'.heap.size=w.heap.size):gD P hs D ι g w':=
 ⟨by rw[hz];exact S.lo,fun b hb=>by rw[hz];exact S.dead b hb,fun id r hg=>by
  obtain⟨B,hB,R,k1,k2⟩:=S.row id r hg
  exact⟨B,hB,R.frame (ho _ fun e=>R.JY (e▸h)) fun a v hr=>zk h h' ho hr,k1,k2⟩,S.inj⟩
theorem nk {ops:Array Oper} {Q:Exit->Act->World->Prop} {a:Act} {o:Oper} {l:List Oper} {v:Value} (hg:o.guard=none) (gm:(execOp a.eval o).run P w=.ok (.value v) w') (h:wpList P ops Q l (a.put o.dst v) w'):wpList P ops Q (o::l) a w:=by
 unfold wpList
 rw[if_pos (by simp[Region.wanted,hg])]
 exact .inl (by unfold Oper.wp;rw[gm];exact h)
theorem Ke {x y:AV} {u v:Value} (h1:cL P w D ι x u) (h2:cL P w D ι y v):cL P w D ι (.gO [x,y]) (.tuple #[u,v]):=
 .gO _ _ (fun j=>if j=0 then u else v) rfl (fun j hj=>by match j,hj with|0,_=>rfl|1,_=>rfl|j+2,hj=>simp at hj;omega) (fun j a ha=>by match j,ha with|0,ha=>simp at ha;subst ha;exact h1|1,ha=>simp at ha;subst ha;exact h2|j+2,ha=>simp at ha)
theorem Kf {x y z:AV} {u v t:Value} (h1:cL P w D ι x u) (h2:cL P w D ι y v) (h3:cL P w D ι z t):cL P w D ι (.gO [x,y,z]) (.tuple #[u,v,t]):=
 .gO _ _ (fun j=>if j=0 then u else if j=1 then v else t) rfl (fun j hj=>by match j,hj with|0,_=>rfl|1,_=>rfl|2,_=>rfl|j+3,hj=>simp at hj;omega) (fun j a ha=>by match j,ha with|0,ha=>simp at ha;subst ha;exact h1|1,ha=>simp at ha;subst ha;exact h2|2,ha=>simp at ha;subst ha;exact h3|j+3,ha=>simp at ha)
theorem Kd {x:AV} {u:Value} (h1:cL P w D ι x u):cL P w D ι (.gO [x]) (.tuple #[u]):=
 .gO _ _ (fun _=>u) rfl (fun j hj=>by match j,hj with|0,_=>rfl|j+1,hj=>simp at hj) (fun j a ha=>by match j,ha with|0,ha=>simp at ha;subst ha;exact h1|j+1,ha=>simp at ha)
structure M8 (P:Program) (w:World) (D:Nat->Prop) (ι:Names) (m:MK) (L:List MapEntry) (left:List (List AV)):Prop where
 len:left.length=L.length
 at_:∀(i:Nat) (cs:List AV),left[i]? =some cs->∃(e:MapEntry) (kv vv:AV),L[i]? =some e/\part m.ka m.ks cs=some kv/\cs[m.ks]? =some vv/\cL P w D ι kv e.key/\cL P w D ι vv e.val
theorem M8.rep {m:MK} {L:List MapEntry} {left:List (List AV)} (h:M8 P w D ι m L left) (hr:∀{a v},cL P w D ι a v->cL P w' D' ι' a v):M8 P w' D' ι' m L left:=⟨h.len,fun i cs hi=>by
 obtain⟨e,kv,vv,h1,h2,h3,h4,h5⟩:=h.at_ i cs hi
 exact⟨e,kv,vv,h1,h2,h3,hr h4,hr h5⟩⟩
theorem ny {α β:Type} {l:List α} {k:List β} {i j:Nat} {x:α} (hl:l.length=k.length) (h:(l.eraseIdx i)[j]? =some x):∃q:Nat,l[q]? =some x/\(k.eraseIdx i)[j]? =k[q]? :=by
 rw[List.getElem?_eraseIdx]at h
 split at h
 ·rename_i hj;exact⟨j,h,by rw[List.getElem?_eraseIdx,if_pos hj]⟩
 ·rename_i hj;exact⟨j+1,h,by rw[List.getElem?_eraseIdx,if_neg hj]⟩
theorem M8.erase {m:MK} {L:List MapEntry} {left:List (List AV)} (h:M8 P w D ι m L left) {i:Nat} (hi:i<L.length):M8 P w D ι m (L.eraseIdx i) (left.eraseIdx i):=⟨by
 rw[List.length_eraseIdx,List.length_eraseIdx,h.len],fun j cs hj=>by
 obtain⟨q,hq,he⟩:=ny h.len hj
 obtain⟨e,kv,vv,h1,h2⟩:=h.at_ q cs hq
 exact⟨e,kv,vv,he.trans h1,h2⟩⟩
theorem od:∀{l:List MapEntry} {i:Nat} {e:MapEntry},(l.map (·.born)).Nodup->l[i]? =some e->l.filter (fun x=>x.born !=e.born)=l.eraseIdx i
 |x::l,0,e,hn,h=>by
  simp at h;subst h
  obtain⟨h1,h2⟩:=List.nodup_cons.1 (show(x.born::l.map (·.born)).Nodup from hn)
  rw[List.filter_cons,if_neg (by simp),List.eraseIdx_cons_zero]
  refine List.filter_eq_self.2 fun y hy=>?_
  have:y.born≠x.born:=fun hc=>h1 (by rw[<-hc];exact List.mem_map_of_mem hy)
  simpa using this
 |x::l,i+1,e,hn,h=>by
  obtain⟨h1,h2⟩:=List.nodup_cons.1 (show(x.born::l.map (·.born)).Nodup from hn)
  simp only[List.getElem?_cons_succ]at h
  have hx:x.born≠e.born:=fun hc=>h1 (by rw[hc];exact List.mem_map_of_mem (List.mem_of_getElem? h))
  rw[List.filter_cons,if_pos (by simpa using hx),List.eraseIdx_cons_succ,od h2 h]
theorem Ep {es:Array MapEntry} {clock:Nat} {seen:Array Nat} {i:Nat} {e:MapEntry} (hs:Lq es clock) (h:(leftOf es seen).toList[i]? =some e):(leftOf es (seen.push e.born)).toList=(leftOf es seen).toList.eraseIdx i:=by
 have hn:((leftOf es seen).toList.map (·.born)).Nodup:=by
  unfold leftOf
  rw[Array.toList_filter]
  exact((List.filter_sublist (p:=fun e=> !seen.contains e.born) (l:=es.toList)).map MapEntry.born).nodup hs.2
 rw[<-od hn h]
 unfold leftOf
 rw[Array.toList_filter,Array.toList_filter,List.filter_filter]
 refine List.filter_congr fun x _=>?_
 rw[contains_push]
 cases seen.contains x.born<;>cases hb:(x.born==e.born)<;>simp_all
theorem eval_put {a:Act} {d:Nat} {v:Value} (h:d<a.tmps.size):(a.put (some d) v).eval (.tmp d)=v:=by
 simp[Act.put,Act.eval,h]
def Kl (ix ie b b1 ok:Nat) (Ez Hj Ey:Oper) (sI:List Oper) (n9:Code):Code:=
 .seq (.region ix #[Ez,Hj] false) (.seq (.cond (.tmp ok) .skip (.exit b)) (.block b1 (.seq (.region ie (Ey::sI).toArray false) n9)))
structure Ij (P:Program) (md:List (Nat×Nat)) (nt fid s0 it nx ok en:Nat) (Ez Hj Ey:Oper) (sI:List Oper) (n9:Code) (vE:List bj) (s6:VC):Prop where
 h1:Ez.op=.next (.tmp it) false
 h2:Ez.dst=some nx
 h3:Ez.guard=none
 h4:Hj.op=.extract (.tmp nx) 0
 h5:Hj.dst=some ok
 h6:Hj.guard=none
 h7:Ey.op=.entry (.tmp it)
 h8:Ey.dst=some en
 h9:Ey.guard=none
 QG:nx<nt
 QH:ok<nt
 lt3:en<nt
 ne1:it≠nx
 ne2:it≠ok
 hE:allM (kY P (Ey::sI).toArray nt s0 false false #[] []) sI 1=some vE
 hR:jt P md nt fid n9=some s6
theorem EJ (hm:P.follows .mixedOrders=true) {md:List (Nat×Nat)} {nt fid s0 ix ie b b1 it nx ok en:Nat} {m:MK} {id:Id} {Ez Hj Ey:Oper} {sI:List Oper} {n9:Code} {vE:List bj} {s6:VC}
  (O:Ij P md nt fid s0 it nx ok en Ez Hj Ey sI n9 vE s6) {rr bm:Nat} {es:Array MapEntry} {clock:Nat} (GV:Lq es clock) {ds:List Deferred} {n0:Nat} {D0:Nat->Prop} {ι0:Names} {w0:World} {Q:Ex->Env->ar->Prop} {Q':Exit->Act->World->Prop}
  (hQ:uh P hs nt ds Q n0 D0 ι0 w0 Q') (hD0:¬D0 rr) (hrr:hs<=rr) (ik:bm≠rr):
  ∀(n:Nat) (left:List (List AV)) (env:Env) (σ:ar) (a:Act) (w:World) (D:Nat->Prop) (ι:Names) (seen:Array Nat),
   CU m it nx ok en id (dL (Sound P) (.seq (.eL false vE) s6)) b b1 Q n left env σ->St P hs nt D ι env σ a w->a.defers=ds->n0<=σ.next->Step hs D0 ι0 w0 D ι w->
   (∃sz C,ι id=some ⟨rr,sz,C,none⟩)->D rr->D bm->w.heap[rr]? =some (.mapIter (some bm) clock seen clock)->w.heap[bm]? =some (.map es clock)->left.length=n->M8 P w D ι m (leftOf es seen).toList left->
   qb P (Kl ix ie b b1 ok Ez Hj Ey sI n9) (Exit.inBlock b Q') (n+1) a w:=by
 intro n
 induction n with
 |zero=>
  intro left env σ a w D ι seen hv dK hd HZ T hid Ul Ui hr hb hlen hL
  obtain⟨LU,hq⟩:=hv
  have ha:a.tmps.getD it undef=.pointer (some ⟨rr,0,none⟩):=by
   have:=dK.env it
   rw[LU]at this
   obtain⟨B,e,hB,_⟩:=iL this
   obtain⟨sz,C,hid⟩:=hid
   rw[hid]at hB;injection hB with hB;subst hB
   simpa using e
  have SZ:a.eval (.tmp it)=.pointer (some ⟨rr,0,none⟩):=ha
  rcases run_next_at (P:=P) w Ez.type rr bm clock clock seen es clock hr hb GV.1 (Nat.le_refl _)with⟨_,gm⟩|⟨e,he,_⟩
  rotate_left
  ·have h0:(leftOf es seen).toList=[]:=List.eq_nil_of_length_eq_zero (by rw[<-hL.len,hlen])
   rw[h0]at he;simp at he
  have FN:nx<a.tmps.size:=by rw[dK.size];exact O.QG
  have E2:=iH (iH dK.env (Kd (.eP _ _ (.bool false))) (dst:=some nx) (fun d h=>by cases h;exact O.QG) dK.size) (.eP _ _ (.bool false)) (dst:=some ok) (fun d h=>by cases h;exact O.QH) (by rw[eZ];exact dK.size)
  show Bg P (.seq _ _) _ a w
  refine l9 (kH (wp_region_list ?_))
  refine nk (v:=.tuple #[.bool false]) (w':=w) O.h3 (by simp[execOp,O.h1,SZ,gm,Result.andThen]) ?_
  refine nk (v:=.bool false) (w':=w) O.h6 (by rw[O.h2];simp[execOp,O.h4,eval_put FN,Instr.extract]) ?_
  rw[O.h2,O.h5]
  refine l9 (xk (t:=false) (eval_put (by rw[eZ,dK.size];exact O.QH)) (kH (wp_exit ?_)))
  show Exit.inBlock b Q' (.exit b) _ _
  simp only[Exit.inBlock,if_true]
  exact hQ .normal _ ⟨σ.get,σ.next+1⟩ _ w D ι hq T ⟨dK.tW,dK.used.next,E2,by rw[eZ,eZ];exact dK.size⟩ (by rw[put_defers,put_defers];exact hd) (Nat.le_succ_of_le HZ)
 |succ n ih=>
  intro left env σ a w D ι seen hv dK hd HZ T hid Ul Ui hr hb hlen hL
  obtain⟨LU,hq⟩:=hv
  have ha:a.tmps.getD it undef=.pointer (some ⟨rr,0,none⟩):=by
   have:=dK.env it
   rw[LU]at this
   obtain⟨B,e,hB,_⟩:=iL this
   obtain⟨sz,C,hid⟩:=hid
   rw[hid]at hB;injection hB with hB;subst hB
   simpa using e
  have SZ:a.eval (.tmp it)=.pointer (some ⟨rr,0,none⟩):=ha
  rcases run_next_at (P:=P) w Ez.type rr bm clock clock seen es clock hr hb GV.1 (Nat.le_refl _)with⟨h0,_⟩|⟨e,he,w1,oL,gm⟩
  ·have:=hL.len
   rw[hlen,Array.length_toList]at this;omega
  obtain⟨i,hi,HX⟩:=List.getElem_of_mem he
  have Rx:(leftOf es seen).toList[i]? =some e:=by rw[List.getElem?_eq_getElem hi,HX]
  have lV:i<left.length:=by rw[hL.len];exact hi
  obtain⟨e',kv,vv,q1,q2,q3,q4,q5⟩:=hL.at_ i left[i] (List.getElem?_eq_getElem lV)
  rw[Rx]at q1;injection q1 with q1;subst q1
  replace hq:=hq i left[i] kv vv (List.getElem?_eq_getElem lV) q2 q3
  have O4:w1.heap[rr]? =some (.mapIter (some bm) clock seen clock):=by rcases oL with rfl|rfl<;>exact hr
  have eF:=MapKept.heap_set (o':=.mapIter (some bm) clock (seen.push e.born) clock) O4
  obtain⟨w2,qu⟩:∃w2,ChangeMaps.setBlock w1 rr (.mapIter (some bm) clock (seen.push e.born) clock)=w2:=⟨_,rfl⟩
  have ho:∀k,k≠rr->w2.heap[k]? =w.heap[k]? :=fun k hk=>by
   rw[<-qu]
   refine(eF.2 k hk).trans ?_
   rcases oL with rfl|rfl<;>rfl
  have hz:w2.heap.size=w.heap.size:=by
   rw[<-qu]
   rcases oL with rfl|rfl<;>simp[ChangeMaps.setBlock]
  have Ea:w2.heap[rr]? =some (.mapIter (some bm) clock (seen.push e.born) clock):=by rw[<-qu];exact eF.1
  have yq:w2.os=w.os/\w2.tape=w.tape/\w2.output=w.output:=by
   rw[<-qu]
   rcases oL with rfl|rfl<;>exact⟨rfl,rfl,rfl⟩
  rw[qu]at gm
  clear qu eF
  have I1:nq w rr:=⟨_,_,_,_,hr⟩
  have I2:nq w2 rr:=⟨_,_,_,_,Ea⟩
  have rt:∀{a v},cL P w D ι a v->cL P w2 D ι a v:=zk I1 I2 ho
  have S2:=dK.tW.iter I1 I2 ho hz
  have T2:Step hs D0 ι0 w0 D ι w2:=⟨⟨yq.1.trans T.below.os,yq.2.1.trans T.below.tape,yq.2.2.trans T.below.output,by rw[hz];exact T.below.size,fun k hk=>(ho k (by omega)).trans (T.below.block k hk)⟩,fun k hk=>(ho k (fun hc=>hD0 (hc▸hk))).trans (T.rq k hk),T.dead,T.names,T.new⟩
  have GJ:w2.heap[bm]? =some (.map es clock):=(ho bm ik).trans hb
  have FN:nx<a.tmps.size:=by rw[dK.size];exact O.QG
  have E1:cu P w2 D ι env a:=fun t=>rt (dK.env t)
  have E2:=iH (iH E1 (Kf (.eP _ _ (.bool true)) (rt q4) (rt q5)) (dst:=some nx) (fun d h=>by cases h;exact O.QG) dK.size) (.eP _ _ (.bool true)) (dst:=some ok) (fun d h=>by cases h;exact O.QH) (by rw[eZ];exact dK.size)
  have E3:=iH E2 (Ke (rt q4) (rt q5)) (dst:=some en) (fun d h=>by cases h;exact O.lt3) (by rw[eZ,eZ];exact dK.size)
  have HT:=run_entry_at (P:=P) w2 rr bm clock seen es clock e Ea GJ (mem_left he).1 GV.2
  show Bg P (.seq _ _) _ a w
  refine l9 (kH (wp_region_list ?_))
  refine nk (v:=.tuple #[.bool true,e.key,e.val]) (w':=w2) O.h3 (by simp[execOp,O.h1,SZ,gm,Result.andThen]) ?_
  refine nk (v:=.bool true) (w':=w2) O.h6 (by rw[O.h2];simp[execOp,O.h4,eval_put FN,Instr.extract]) ?_
  rw[O.h2,O.h5]
  refine l9 (xk (t:=true) (eval_put (by rw[eZ,dK.size];exact O.QH)) (kH (wp_skip ?_)))
  refine tP (l9 (kH (wp_region_list ?_)))
  show wpList P _ _ (Ey::sI) _ _
  have ha3:(((a.put (some nx) (.tuple #[.bool true,e.key,e.val])).put (some ok) (.bool true)).eval (.tmp it))=.pointer (some ⟨rr,0,none⟩):=by
   have n1:=O.ne1
   have n2:=O.ne2
   rw[<-SZ]
   simp[Act.put,Act.eval,Array.getD_eq_getD_getElem?,Array.getElem?_setIfInBounds,Ne.symm n1,Ne.symm n2]
  refine nk (v:=.tuple #[e.key,e.val]) (w':=w2) O.h9 (by simp[execOp,O.h7,ha3,HT,Result.andThen]) ?_
  rw[O.h8]
  refine zy sI vE 1 _ ⟨σ.get,σ.next+1⟩ _ w2 D ι (fun _=>False) O.hE hq S2 dK.used.next (fun _ h=>h.elim) E3 (by rw[eZ,eZ,eZ];exact dK.size) fun T9 σ3 a3 w3 D3 ι3 hk T3 St3 Rk U6=>?_
  refine qP hm n9 s6 O.hR _ T9 σ3 a3 w3 D3 ι3 _ hk St3 fun ex IK σ4 a4 w4 D4 ι4 Jp T4 TR Rl U7=>?_
  have UN:a4.defers=ds:=by rw[Rl,Rk,put_defers,put_defers,put_defers];exact hd
  have Vg:n0<=σ4.next:=Nat.le_trans HZ (Nat.le_trans (Nat.le_succ _) (Nat.le_trans U6 U7))
  have NY:=T3.trans T4
  have TT:=T2.trans NY
  have uI:CU m it nx ok en id (dL (Sound P) (.seq (.eL false vE) s6)) b b1 Q n (left.eraseIdx i) IK σ4->qb P (Kl ix ie b b1 ok Ez Hj Ey sI n9) (Exit.inBlock b Q') (n+1) a4 w4:=fun hq5=>by
   refine ih (left.eraseIdx i) IK σ4 a4 w4 D4 ι4 (seen.push e.born) hq5 TR UN Vg TT ?_ (NY.dead _ Ul) (NY.dead _ Ui) ((NY.rq _ Ul).trans Ea) ((NY.rq _ Ui).trans GJ) ?_ ?_
   ·obtain⟨sz,C,hid⟩:=hid;exact⟨sz,C,NY.names _ _ hid⟩
   ·rw[List.length_eraseIdx,if_pos lV,hlen];rfl
   ·rw[Ep GV Rx]
    exact(hL.erase hi).rep fun hr=>NY.rep (rt hr)
  have out:∀ex,ex≠.normal->Q ex IK σ4->Q' (SL ex) a4 w4:=fun ex _ h=>hQ ex IK σ4 a4 w4 D4 ι4 h TT TR UN Vg
  cases ex with
  |normal=>exact uI Jp
  |ret=>exact out .ret (by simp) Jp
  |exit kb=>
   simp only[bc]at Jp
   simp only[SL,Exit.inBlock]
   by_cases h1:kb=b1
   ·rw[if_pos h1]at Jp ⊢
    exact uI Jp
   ·rw[if_neg h1]at Jp ⊢
    simp only[dr,bc]at Jp
    show Exit.inBlock b Q' (.exit kb) a4 w4
    simp only[Exit.inBlock]
    by_cases h2:kb=b
    ·rw[if_pos h2]at Jp ⊢
     exact hQ .normal IK σ4 a4 w4 D4 ι4 Jp TT TR UN Vg
    ·rw[if_neg h2]at Jp ⊢
     exact out (.exit kb) (by simp) Jp
def CS (P:Program) (nt:Nat) (c:Code) (W:(Ex->Env->ar->Prop)->Env->ar->Prop):Prop:=
 ∀(hs:Nat) (Q:Ex->Env->ar->Prop) (env:Env) (σ:ar) (a:Act) (w:World) (D:Nat->Prop) (ι:Names) (Q':Exit->Act->World->Prop),W Q env σ->St P hs nt D ι env σ a w->uh P hs nt a.defers Q σ.next D ι w Q'->Bg P c Q' a w
theorem CS.code (hm:P.follows .mixedOrders=true) {md:List (Nat×Nat)} {nt fid:Nat} {c:Code} {vc:VC} (h:jt P md nt fid c=some vc):CS P nt c (dL (Sound P) vc):=
 fun _ Q env σ a w D ι Q' hv dK hQ=>qP hm c vc h Q env σ a w D ι Q' hv dK hQ
theorem CS.seq {nt:Nat} {x y:Code} {V W:(Ex->Env->ar->Prop)->Env->ar->Prop} (h:CS P nt x V) (k:CS P nt y W):CS P nt (.seq x y) (fun Q=>V (dr (W Q) Q)):=fun hs Q env σ a w D ι Q' hv dK hQ=>by
 refine l9 (h hs _ env σ a w D ι _ hv dK fun ex jl σ1 a1 w1 D1 ι1 hq T kj hd hle=>?_)
 cases ex with
 |normal=>exact k hs Q jl σ1 a1 w1 D1 ι1 Q' hq kj (by rw[hd];exact hQ.later T hle)
 |exit id=>exact hQ (.exit id) jl σ1 a1 w1 D1 ι1 hq T kj hd hle
 |ret=>exact hQ .ret jl σ1 a1 w1 D1 ι1 hq T kj hd hle
theorem CS.rng (hm:P.follows .mixedOrders=true) {md:List (Nat×Nat)} {nt fid s0 sA site ia ix ie b b1 it nx ok en:Nat} {m:MK} {Ez Hj Ey EC:Oper} {J8 sI:List Oper} {n9:Code} {vA vE:List bj} {s6:VC} {t k e:TypeId} {tm:Operand} {tm':O}
  (O:Ij P md nt fid s0 it nx ok en Ez Hj Ey sI n9 vE s6) (h1:EC.op=.range t tm) (h2:EC.dst=some it) (h3:EC.guard=none) (dY:it<nt) (ht:P.underlying t=some (.map k e)) (RP:cO P tm=some tm') (hA:allM (kY P (J8++[EC]).toArray nt sA false false #[] []) J8 0=some vA):
  CS P nt (.seq (.region ia (J8++[EC]).toArray false) (.block b (.loop (Kl ix ie b b1 ok Ez Hj Ey sI n9))))
   (fun Q=>wpOps (Sound P) false vA (Hu m tm' site it nx ok en (dL (Sound P) (.seq (.eL false vE) s6)) b b1 Q)):=fun hs Q env σ a w D ι Q' hv dK hQ=>by
 refine l9 (kH (wp_region_list ?_))
 show wpList P _ _ (J8++[EC]) a w
 refine xl [EC] J8 vA 0 env σ a w D ι (fun _=>False) hA hv dK.tW dK.used (fun _ h=>h.elim) dK.env dK.size fun jl σ1 a1 w1 D1 ι1 hk T tg vM GQ=>?_
 obtain⟨id,r,hid,hg,hw,hr⟩:=hk
 have gQ:=dp tg.env RP
 rw[hid]at gQ
 obtain⟨B,hv,hB,hk⟩:=F3 gQ
 obtain⟨B',dD,R,kD,mM⟩:=tg.tW.row id r hg
 rw[hB]at dD;injection dD with dD;subst dD
 obtain⟨hrsz,es,clock,hb,fw,⟨hlen,GV⟩,hM⟩:=R.map m hk
 have SN:=R.lt
 have gm:=run_range_map (P:=P) w1 t k e B.b es clock ht hb
 refine nk (v:=.pointer (some ⟨w1.heap.size,0,none⟩)) (w':=w1.alloc (.mapIter (some B.b) clock #[] clock)) h3 (by simp[execOp,h1,hv,gm,Result.andThen]) ?_
 rw[h2]
 obtain⟨w2,qu⟩:∃w2,w1.alloc (.mapIter (some B.b) clock #[] clock)=w2:=⟨_,rfl⟩
 have hblk:∀b,b<w1.heap.size->w2.heap[b]? =w1.heap[b]? :=fun b hb=>by rw[<-qu];exact Below.heap_alloc _ _ _ hb
 have kE:w2.heap[w1.heap.size]? =some (.mapIter (some B.b) clock #[] clock):=by rw[<-qu];exact heap_alloc_new _ _
 have hz:w2.heap.size=w1.heap.size+1:=by rw[<-qu];simp
 have yq:w2.os=w1.os/\w2.tape=w1.tape/\w2.output=w1.output:=by rw[<-qu];exact⟨rfl,rfl,rfl⟩
 rw[qu]
 clear qu gm
 let D2:Nat->Prop:=fun x=>D1 x∨x=B.b∨x=w1.heap.size
 let ι2:Names:=kT ι1 ⟨site,σ1.next⟩ ⟨w1.heap.size,1,0,none⟩
 have jV:ι1 ⟨site,σ1.next⟩=none:=fresh tg.used (fun h=>h)
 have Tr:∀{a v},cL P w1 D1 ι1 a v->cL P w2 D2 ι2 a v:=fun h=>h.frame (fun b hd=>hblk b (tg.tW.dead b hd)) (fun _ h=>.inl h) (fe jV)
 have zx:∀{j q C},σ1.get j=some q->ι2 j=some C->ι1 j=some C:=fun {j q C} hj hC=>by
  obtain⟨C',u9,_⟩:=tg.tW.row j q hj
  have:=fe (B:=⟨w1.heap.size,1,0,none⟩) jV j C' u9
  have e:=this.symm.trans hC
  injection e with e;rw[<-e];exact u9
 have lt:∀{j q C},σ1.get j=some q->ι1 j=some C->C.b<w1.heap.size:=fun {j q C} hj hC=>by
  obtain⟨C',u9,R',_⟩:=tg.tW.row j q hj
  rw[hC]at u9;injection u9 with u9;subst u9
  exact R'.lt
 have Oo:∀{j q},bt σ1.get id {r with w:=false} j=some q->∃q0,σ1.get j=some q0/\(q.w=true->q=q0/\j≠id)/\(j=id->q={r with w:=false}/\q0=r)/\(j≠id->q=q0):=fun {j q} h=>by
  unfold bt at h
  split at h
  ·rename_i e
   injection h with h;subst h
   exact⟨r,e▸hg,fun h=>(by cases h),fun _=>⟨rfl,rfl⟩,fun hc=>absurd e hc⟩
  ·rename_i e
   exact⟨q,h,fun _=>⟨rfl,e⟩,fun hc=>absurd hc e,fun _=>rfl⟩
 have S2:gD P hs D2 ι2 (bt σ1.get id {r with w:=false}) w2:=by
  refine⟨by rw[hz];exact Nat.le_succ_of_le tg.tW.lo,fun b hb=>?_,fun j q h=>?_,fun j j' q q' C C' h h' Jq hC u9 he=>?_⟩
  ·rw[hz]
   rcases hb with hb|rfl|rfl
   ·exact Nat.lt_succ_of_lt (tg.tW.dead b hb)
   ·exact Nat.lt_succ_of_lt SN
   ·exact Nat.lt_succ_self _
  ·obtain⟨q0,Nw,Jq,Aj,ik⟩:=Oo h
   obtain⟨C,hC,RC,k1,k2⟩:=tg.tW.row j q0 Nw
   have hCl:=lt Nw hC
   refine⟨C,fe jV j C hC,?_,fun QA=>k1 ((Jq QA).1▸QA),fun QA hD=>?_⟩
   ·have RF:gR P w2 D2 ι2 C q0:=RC.frame (hblk _ hCl) fun a v h=>Tr h
    by_cases hj:j=id
    ·obtain⟨e1,e2⟩:=Aj hj
     rw[e1,<-e2];exact RF.flag false
    ·rw[ik hj];exact RF
   ·obtain⟨e1,e2⟩:=Jq QA
    rcases hD with hD|hD|hD
    ·exact k2 (e1▸QA) hD
    ·exact e2 (tg.tW.inj j id q0 r C B Nw hg (e1▸QA) hC hB hD)
    ·omega
  ·obtain⟨q0,Nw,Vq,_⟩:=Oo h
   obtain⟨q0',RJ,_⟩:=Oo h'
   exact tg.tW.inj j j' q0 q0' C C' Nw RJ ((Vq Jq).1▸Jq) (zx Nw hC) (zx RJ u9) he
 have T2:Step hs D1 ι1 w1 D2 ι2 w2:=⟨⟨yq.1,yq.2.1,yq.2.2,by omega,fun k hk=>hblk k (Nat.lt_of_lt_of_le hk tg.tW.lo)⟩,fun b hb=>hblk b (tg.tW.dead b hb),fun _ h=>.inl h,fe jV,fun b hb=>by
  rcases hb with hb|rfl|rfl
  ·exact .inl hb
  ·exact .inr (kD hw)
  ·exact .inr tg.tW.lo⟩
 have E2:cu P w2 D2 ι2 (upd jl (some it) (.ptr ⟨site,σ1.next⟩ 0 0)) (a1.put (some it) (.pointer (some ⟨w1.heap.size,0,none⟩))):=
  iH (fun t=>Tr (tg.env t)) (by have:=cL.ptr (P:=P) (w:=w2) (D:=D2) (ι:=ι2) ⟨site,σ1.next⟩ 0 0 ⟨w1.heap.size,1,0,none⟩ (eb _ _ _) rfl;simpa using this) (fun d h=>by cases h;exact dY) tg.size
 have L2:M8 P w2 D2 ι2 m (leftOf es #[]).toList r.rows:=by
  have he:(leftOf es #[]).toList=es.toList:=by simp[leftOf]
  rw[he]
  refine⟨by simpa using fw.symm,fun i cs hi=>?_⟩
  obtain⟨QY,kv,vv,q1,q2,q3,q4,q5⟩:=hM i cs hi
  exact⟨QY,kv,vv,by simpa using q1,q2,q3,Tr q4,Tr q5⟩
 show Bg P (.block b (.loop (Kl ix ie b b1 ok Ez Hj Ey sI n9))) Q' _ w2
 exact tP (CK (r.rows.length+1) (EJ hm O GV (ds:=a.defers) (n0:=σ.next) (D0:=D) (ι0:=ι) (w0:=w) hQ
  (fun hc=>by have:=dK.tW.dead _ hc;have:=T.below.size;omega) tg.tW.lo (by omega) r.rows.length r.rows _ ⟨bt σ1.get id {r with w:=false},σ1.next+1⟩ _ w2 D2 ι2 #[] hr
  ⟨S2,tg.used.upd.next,E2,by rw[eZ];exact tg.size⟩ (by rw[put_defers];exact vM) (Nat.le_succ_of_le GQ) (T.trans T2) ⟨1,0,eb _ _ _⟩ (.inr (.inr rfl)) (.inr (.inl rfl)) kE ((hblk _ SN).trans hb) rfl L2))
theorem CS.fn {f:Nat} {fn:Func} {c:Code} {args:List AV} {σ:ar} {K:AV->ar->Prop} {vr:List om} {W:(Ex->Env->ar->Prop)->Env->ar->Prop} (Qn:P.funcs[f]? =some fn) (hc:fn.body=some c) (hr:fn.results.toList.mapM (DG P)=some vr) (ha:fn.params.size+fn.nfree=args.length) (hle:fn.params.size+fn.nfree<=fn.ntmps)
  (h:CS P fn.ntmps c W) (hv:W (kR vr K) (cD args) σ):Call P f args σ K:=
 gS (wm Qn hc hr ha hle fun hs w D ι a Q' dK hQ=>h hs (kR vr K) (cD args) σ a w D ι Q' hv dK hQ)
theorem s8 (hm:P.follows .mixedOrders=true) {c:VC} {Q Q':Ex->Env->ar->Prop} {env:Env} {σ:ar} (hQ:∀x e s,Q x e s->Q' x e s) (h:dL (Call P) c Q env σ):dL (Sound P) c Q' env σ:=
 jE (fun _ _ _ _ h=>gx hm h) kW c Q Q' env σ hQ h
theorem zG {m:MK} {it nx ok en:Nat} {id:Id} {B B':(Ex->Env->ar->Prop)->Env->ar->Prop} {b b1:Nat} {Q Q':Ex->Env->ar->Prop} (hB:∀R R' e s,(∀x e s,R x e s->R' x e s)->B R e s->B' R' e s) (hQ:∀x e s,Q x e s->Q' x e s):
  ∀(n:Nat) (left:List (List AV)) (env:Env) (σ:ar),CU m it nx ok en id B b b1 Q n left env σ->CU m it nx ok en id B' b b1 Q' n left env σ
 |0,_,env,σ,h=>⟨h.1,hQ _ _ _ h.2⟩
 |n+1,left,env,σ,h=>⟨h.1,fun i cs kv vv h1 h2 h3=>hB _ _ _ _ (fun x e s hx=>by
  have hn:=zG (id:=id) (m:=m) (it:=it) (nx:=nx) (ok:=ok) (en:=en) (b:=b) (b1:=b1) hB hQ n (left.eraseIdx i) e s
  cases x with
  |normal=>exact hn hx
  |ret=>exact hQ _ _ _ hx
  |exit kb=>
   simp only[bc]at hx ⊢
   split at hx
   ·rename_i h1;rw[if_pos h1];exact hn hx
   ·rename_i h1
    rw[if_neg h1]
    simp only[dr,bc]at hx ⊢
    split at hx
    ·rename_i h2;rw[if_pos h2];exact hQ _ _ _ hx
    ·rename_i h2;rw[if_neg h2];exact hQ _ _ _ hx) (h.2 i cs kv vv h1 h2 h3)⟩
theorem Hv (hm:P.follows .mixedOrders=true) {m:MK} {tm:O} {site it nx ok en:Nat} {c:VC} {b b1:Nat} {Q Q':Ex->Env->ar->Prop} {env:Env} {σ:ar} (hQ:∀x e s,Q x e s->Q' x e s) (h:Hu m tm site it nx ok en (dL (Call P) c) b b1 Q env σ):Hu m tm site it nx ok en (dL (Sound P) c) b b1 Q' env σ:=by
 obtain⟨id,r,h1,h2,h3,h4⟩:=h
 exact⟨id,r,h1,h2,h3,zG (B':=dL (Sound P) c) (fun R R' e s hR hb=>s8 hm hR hb) hQ _ _ _ _ h4⟩
theorem xo {α:Type}:∀{l:List α} {i:Nat} {x:α},l[i]? =some x->(x::l.eraseIdx i).Perm l
 |y::l,0,x,h=>by simp at h;subst h;exact List.Perm.refl _
 |y::l,i+1,x,h=>by
  simp only[List.getElem?_cons_succ]at h
  rw[List.eraseIdx_cons_succ]
  exact(List.Perm.swap _ _ _).trans ((xo h).cons _)
theorem Ss {m:MK} {tm:O} {site it nx ok en:Nat} {c:VC} {b b1:Nat} {Q:Ex->Env->ar->Prop} {env:Env} {σ:ar} {id:Id} {r:Row} (I:List (List AV)->Env->ar->Prop) (h1:cU env tm=.map id m) (h2:σ.get id=some r) (h3:r.w=true) (LU:([nx,ok,en]++yM c).contains it=false)
  (h0:I [] (upd env (some it) (.ptr ⟨site,σ.next⟩ 0 0)) ⟨bt σ.get id {r with w:=false},σ.next+1⟩)
  (step:∀pre cs rest e s kv vv,(pre++cs::rest).Perm r.rows->I pre e s->gI ([nx,ok,en]++yM c) (upd env (some it) (.ptr ⟨site,σ.next⟩ 0 0)) e->part m.ka m.ks cs=some kv->cs[m.ks]? =some vv->
   dL (Call P) c (bc b1 (dr (I (pre++[cs])) (bc b Q))) (upd (upd (upd e (some nx) (.gO [.bool true,kv,vv])) (some ok) (.bool true)) (some en) (.gO [kv,vv])) ⟨s.get,s.next+1⟩)
  (fin:∀pre e s,pre.Perm r.rows->I pre e s->gI ([nx,ok,en]++yM c) (upd env (some it) (.ptr ⟨site,σ.next⟩ 0 0)) e->Q .normal (upd (upd e (some nx) (.gO [.bool false])) (some ok) (.bool false)) ⟨s.get,s.next+1⟩):
  Hu m tm site it nx ok en (dL (Call P) c) b b1 Q env σ:=by
 refine⟨id,r,h1,h2,h3,?_⟩
 have Rm:∀e,gI ([nx,ok,en]++yM c) (upd env (some it) (.ptr ⟨site,σ.next⟩ 0 0)) e->e it=.ptr ⟨site,σ.next⟩ 0 0:=fun e h=>by
  rw[h it LU];simp[upd]
 have key:∀n left pre e s,(pre++left).Perm r.rows->left.length=n->I pre e s->gI ([nx,ok,en]++yM c) (upd env (some it) (.ptr ⟨site,σ.next⟩ 0 0)) e->CU m it nx ok en ⟨site,σ.next⟩ (dL (Call P) c) b b1 Q n left e s:=by
  intro n
  induction n with
  |zero=>
   intro left pre e s hp hl hI hK
   have:left=[]:=List.eq_nil_of_length_eq_zero hl
   subst this
   rw[List.append_nil]at hp
   exact⟨Rm e hK,fin pre e s hp hI hK⟩
  |succ n ih=>
   intro left pre e s hp hl hI hK
   refine⟨Rm e hK,fun i cs kv vv hi hk hv=>?_⟩
   have lV:=(List.getElem?_eq_some_iff.1 hi).1
   have FK:(cs::left.eraseIdx i).Perm left:=by
    exact xo hi
   have Jm:(pre++cs::left.eraseIdx i).Perm r.rows:=(FK.append_left pre).trans hp
   have OF:gI ([nx,ok,en]++yM c) (upd env (some it) (.ptr ⟨site,σ.next⟩ 0 0)) (upd (upd (upd e (some nx) (.gO [.bool true,kv,vv])) (some ok) (.bool true)) (some en) (.gO [kv,vv])):=
    ((hK.upd (fun t h=>by cases h;simp)).upd (fun t h=>by cases h;simp)).upd (fun t h=>by cases h;simp)
   refine jE (fun _ _ _ _ h=>h) aJ c _ _ _ _ (fun x e' s' hx=>?_) (zN c _ _ _ (fun t ht=>List.mem_append_right _ ht) OF (step pre cs (left.eraseIdx i) e s kv vv Jm hI hK hk hv))
   obtain⟨hx,GP⟩:=hx
   have uI:I (pre++[cs]) e' s'->CU m it nx ok en ⟨site,σ.next⟩ (dL (Call P) c) b b1 Q n (left.eraseIdx i) e' s':=fun Ur=>
    ih (left.eraseIdx i) (pre++[cs]) e' s' (by rw[List.append_assoc];exact Jm) (by rw[List.length_eraseIdx,if_pos lV];omega) Ur GP
   cases x with
   |normal=>exact uI hx
   |ret=>exact hx
   |exit kb=>
    simp only[bc]at hx ⊢
    split at hx
    ·rename_i h1;rw[if_pos h1];exact uI hx
    ·rename_i h1;rw[if_neg h1];exact hx
 exact key _ r.rows [] _ _ (List.Perm.refl _) rfl h0 (gI.refl _ _)
end Go.Proofs.YtgoljkjaameagaaGreat.V

namespace Go.Proofs.YtgoljkjaameagaaGreat.V
open Go.RowKit
def NR:Code->Code
 | .seq a _=>a
 |c=>c
def H7:Code->Code
 | .seq _ b=>b
 |c=>c
def TK:Code->Code
 | .block _ c=>c
 |c=>c
def VM:Code->Code
 | .loop c=>c
 |c=>c
def SH:Code->List Oper
 | .region _ o _=>o.toList
 |_=>[]
def rg2 (k:Code):Code:=NR (NR (H7 (H7 k)))
def VI (k:Code):Code:=H7 (NR (H7 (H7 k)))
def rgL (k:Code):Code:=VM (TK (VI k))
def Pz (k:Code):Code:=H7 (H7 (rgL k))
def Qa:Oper:={dst:=none,op:=.nilCheck (.tmp 0),type:=0,pos:= "",after:= #[],guard:=none}
def rgP (k:Code):List Oper:=(SH (rg2 k)).dropLast
def rgO (k:Code):Oper:=(SH (rg2 k)).getLastD Qa
def TE (k:Code) (i:Nat):Oper:=(SH (NR (rgL k))).getD i Qa
def Sk (k:Code):Oper:=(SH (NR (TK (Pz k)))).headD Qa
def Sm (k:Code):List Oper:=(SH (NR (TK (Pz k)))).tail
def rgR (k:Code):Code:=H7 (TK (Pz k))
def Sn (P:Program) (v0 v1:VC) (vA:List bj) (m:MK) (tm:O) (site it nx ok en:Nat) (vE:List bj) (vR:VC) (b b1:Nat) (vT:VC) (Q:Ex->Env->ar->Prop):Env->ar->Prop:=
 dL (Sound P) v0 (dr (dL (Sound P) v1 (dr (wpOps (Sound P) false vA (Hu m tm site it nx ok en (dL (Sound P) (.seq (.eL false vE) vR)) b b1 (dr (dL (Sound P) vT Q) Q))) Q)) Q)
def PA (P:Program) (v0 v1:VC) (vA:List bj) (m:MK) (tm:O) (site it nx ok en:Nat) (vE:List bj) (vR:VC) (b b1:Nat) (vT:VC) (Q:Ex->Env->ar->Prop):Env->ar->Prop:=
 dL (Call P) v0 (dr (dL (Call P) v1 (dr (wpOps (Call P) false vA (Hu m tm site it nx ok en (dL (Call P) (.seq (.eL false vE) vR)) b b1 (dr (dL (Call P) vT Q) Q))) Q)) Q)
theorem xH {F F':Env->ar->Prop} {Q:Ex->Env->ar->Prop} (h:∀e s,F e s->F' e s):∀x e s,dr F Q x e s->dr F' Q x e s:=fun x e s hx=>by
 cases x with
 |normal=>exact h e s hx
 |ret=>exact hx
 |exit id=>exact hx
theorem Km {P:Program} (hm:P.follows .mixedOrders=true) {v0 v1:VC} {vA:List bj} {m:MK} {tm:O} {site it nx ok en:Nat} {vE:List bj} {vR:VC} {b b1:Nat} {vT:VC} {Q:Ex->Env->ar->Prop} {env:Env} {σ:ar}
  (h:PA P v0 v1 vA m tm site it nx ok en vE vR b b1 vT Q env σ):Sn P v0 v1 vA m tm site it nx ok en vE vR b b1 vT Q env σ:=
 s8 hm (xH fun _ _ h=>s8 hm (xH fun _ _ h=>lD (fun _ _ _ _ h=>gx hm h) kW (fun _ _ h=>Hv hm (xH fun _ _ h=>s8 hm (fun _ _ _ h=>h) h) h) _ _ _ h) h) h
noncomputable def pq:Go.Code:=Tryz.f101.body.getD .skip
def Fb:VC:=(.eL false [⟨(some 2),(.new [.cC]),none,101000000,[]⟩])
def KN:VC:=(.eL false [⟨(some 3),(.dq (.k .cC)),none,101001000,[]⟩])
def KO:List bj:=[⟨(some 6),(.dq (.t 0)),none,101002000,[]⟩,⟨(some 7),(.Bi (.t 6)),none,101002001,[]⟩,⟨(some 8),(.fW 4 (.t 7)),none,101002002,[]⟩,⟨(some 9),(.load false 1 (.t 8)),none,101002003,[]⟩]
def A5:List bj:=[⟨(some 14),(.extract 0 (.t 13)),none,101004001,[]⟩,⟨(some 15),(.extract 1 (.t 13)),none,101004002,[]⟩,⟨(some 4),(.new [(.int .i64 0),(.int .i64 0)]),none,101004003,[]⟩,⟨none,(.store 2 (.t 4) (.t 14)),none,101004004,[]⟩,⟨(some 5),(.dq (.t 15)),none,101004005,[]⟩]
def A6:VC:=(.eL false [⟨(some 16),(.dq (.t 3)),none,101005000,[]⟩,⟨(some 17),(.load true 2 (.t 4)),none,101005001,[]⟩,⟨(some 18),(.dq (.t 5)),none,101005002,[]⟩,⟨(some 19),(.build [(.int .i64 0),(.int .i64 0),(.int .i64 0)] [(0,(2,(.t 17))),(2,(1,(.t 18)))]),none,101005003,[]⟩,⟨(some 20),(.mh 3 1 [(.t 19)]),none,101005004,[]⟩,⟨(some 21),(.append 3 (.t 16) (.t 20)),none,101005005,[]⟩,⟨(some 3),(.dq (.t 21)),none,101005006,[]⟩])
def A7:VC:=(.seq (.eL false [⟨(some 22),(.dq (.t 3)),none,101006000,[]⟩,⟨(some 23),(.call 118 [(.t 22)]),none,101006001,[]⟩,⟨none,(.store 1 (.t 2) (.t 23)),none,101006002,[]⟩]) .ret)
def A9:List om:=[(.cell true 1 2)]
def E4:O:=(.t 9)
theorem Ps:Ij Tryz.prog [] Tryz.f101.ntmps 101 101004000 10 11 12 13 (TE pq 0) (TE pq 1) (Sk pq) (Sm pq) (rgR pq) A5 A6:=⟨by kernel_rfl,by kernel_rfl,by kernel_rfl,by kernel_rfl,by kernel_rfl,by kernel_rfl,by kernel_rfl,by kernel_rfl,by kernel_rfl,by decide,by decide,by decide,by decide,by decide,by kernel_rfl,by kernel_rfl⟩
theorem PE:pq=.seq (NR pq) (.seq (NR (H7 pq)) (.seq (.seq (.region 2 (rgP pq++[rgO pq]).toArray false) (.block 0 (.loop (Kl 3 4 0 1 12 (TE pq 0) (TE pq 1) (Sk pq) (Sm pq) (rgR pq))))) (H7 (H7 (H7 pq))))):=by kernel_rfl
theorem Od (m:MK):CS Tryz.prog Tryz.f101.ntmps pq (Sn Tryz.prog Fb KN KO m E4 101002999 10 11 12 13 A5 A6 0 1 A7):=by
 rw[PE]
 exact CS.seq (CS.code (md:=[]) (fid:=101) mixed (by kernel_rfl)) (CS.seq (CS.code (md:=[]) (fid:=101) mixed (by kernel_rfl)) (CS.seq (CS.rng (tm:=.tmp 9) (sA:=101002000) (t:=148) (k:=123) (e:=2) mixed Ps (by kernel_rfl) (by kernel_rfl) (by kernel_rfl) (by decide) (by kernel_rfl) (by kernel_rfl) (by kernel_rfl)) (CS.code (md:=[]) (fid:=101) mixed (by kernel_rfl))))
theorem Py {args:List AV} {σ:ar} {K:AV->ar->Prop} (ha:args.length=Tryz.f101.params.size) (m:MK) (h:PA Tryz.prog Fb KN KO m E4 101002999 10 11 12 13 A5 A6 0 1 A7 (kR A9 K) (cD args) σ):Call Tryz.prog 101 args σ K:=
 CS.fn Tryz.func101 (by kernel_rfl) (by kernel_rfl) ha.symm (by decide) (Od m) (Km mixed h)
end Go.Proofs.YtgoljkjaameagaaGreat.V

namespace Go.Proofs.YtgoljkjaameagaaGreat.V
open Go.RowKit
attribute [local irreducible] dL wpOps gC Call
attribute [local go_sem] aO fM eS ga fZ cU upd cD K.av cR AV.cells AV.cell rowOf rowsOf part ld rowAt bt cw dG ei iu bK dm eB fY e6 dt ep di dh dV dW bU bd cZ bQ db da ek er eo cY ck dj ej bP aQ dd cJ iq br cN bV aZ dr bc dH AV.undef bF bJ dX eh dR dO cK eA eC cI ev eu dc de List.getD_cons_zero List.getD_cons_succ List.getD_nil List.all_cons List.all_nil Bool.and_true Bool.true_and Bool.and_self Bool.not_true Bool.not_false Option.map_some Option.map_none Option.bind_some Option.bind_none List.length_cons List.length_nil List.take_succ_cons List.take_zero List.take_nil List.drop_succ_cons List.drop_zero List.drop_nil List.head?_cons List.map_cons List.map_nil List.getElem?_cons_zero List.getElem?_cons_succ List.cons_append List.nil_append List.append_nil List.length_map List.set_cons_zero List.set_cons_succ Nat.reduceMul eq_self Int.toNat_natCast Int.natCast_nonneg and_self true_and and_true decide_true decide_false Bool.false_eq_true Nat.zero_add Nat.add_zero List.contains_cons List.contains_nil Bool.or_false Bool.false_or beq_self_eq_true Nat.reduceBEq ne_eq not_true_eq_false not_false_eq_true Id.mk.injEq false_and and_false Nat.reduceLT Int.reduceLE Int.reduceLT Int.reduceToNat Int.reduceNeg Int.reduceAdd Nat.le_refl List.length_append beq_true beq_false Bool.not_eq_eq_eq_not or_false false_or dP ai aq aI bh bE cz aY bl aV bf cW bH
theorem zF:∀{ps qs:List ad},(ps.Pairwise fun a b=>jR a.aP b.aP=true)->(qs.Pairwise fun a b=>jR a.aP b.aP=true)->(∀x,x∈ps↔x∈qs)->ps=qs
 |[],[],_,_,_=>rfl
 |[],q::qs,_,_,h=>absurd ((h q).2 (by simp)) (by simp)
 |p::ps,[],_,_,h=>absurd ((h p).1 (by simp)) (by simp)
 |p::ps,q::qs,hp,hq,h=>by
  obtain⟨p1,p2⟩:=List.pairwise_cons.1 hp
  obtain⟨q1,q2⟩:=List.pairwise_cons.1 hq
  have e:p=q:=by
   rcases List.mem_cons.1 ((h p).1 (by simp))with e|e
   ·exact e
   ·rcases List.mem_cons.1 ((h q).2 (by simp))with e'|e'
    ·exact e'.symm
    ·have:=JR (q1 p e)
     rw[p1 q e']at this;cases this
  subst e
  congr 1
  refine zF p2 q2 fun x=>⟨fun hx=>?_,fun hx=>?_⟩
  ·rcases List.mem_cons.1 ((h x).1 (List.mem_cons_of_mem _ hx))with e|e
   ·subst e;have:=p1 x hx;rw[nC]at this;cases this
   ·exact e
  ·rcases List.mem_cons.1 ((h x).2 (List.mem_cons_of_mem _ hx))with e|e
   ·subst e;have:=q1 x hx;rw[nC]at this;cases this
   ·exact e
theorem ES {L qs:List ad} (hR:oj L) (hp:qs.Perm L) (hs:∀i j:Nat,i<j->j<qs.length->jR (aL qs j).aP (aL qs i).aP=false):qs=L:=by
 rw[sK]at hR
 have hd:L.Pairwise fun a b=>a.aP≠b.aP:=hR.imp fun {a b} h e=>by rw[e,nC]at h;cases h
 have hdq:qs.Pairwise fun a b=>a.aP≠b.aP:=hp.symm.pairwise hd fun {a b} h e=>h e.symm
 refine zF ?_ hR fun x=>hp.mem_iff
 rw[List.pairwise_iff_getElem]at hdq ⊢
 intro i j hi hj D7
 have h1:=hs i j D7 hj
 rw[fm hj,fm hi]at h1
 exact FY h1 fun e=>hdq i j hi hj D7 e.symm
theorem DH (ps:List ad) (h0:ps≠[]) (hlen:ps.length<=1048576) (σ:ar) (id:Id) (hv:id.bW<σ.next) (hg:σ.get id=some ⟨true,3,ps.map aa⟩):
  Call Tryz.prog 166 [.own id 0 ps.length] σ fun a σ'=>∃o:Id,a=.own o 0 ps.length/\σ'.get o=some ⟨true,3,ps.map aa⟩/\σ.next<=o.bW/\o.bW<σ'.next/\∀x:Id,x.bW<σ.next->σ'.get x=σ.get x:=by
 refine eW eI rfl fun hl=>?_
 clear hl
 have h2:ps.length<=16777216:=by omega
 have hm:(ps.map aa).length=ps.length:=by simp
 have v1:=dv hv
 have ht:(ps.map aa).take ps.length=ps.map aa:=by rw[<-hm,List.take_length]
 have ha:(ps.map aa).all (fun c=>c.length==3&&c.all AV.cell)=true:=all_map fun x=>by simp[aa,AV.cell]
 (try((repeat(revert hN;revert N;apply Pn.out));refine wk (tw @hg (tw @h2 (tw @hm (tw @v1 (tw @ht @ha))))) ?_;(repeat(refine Pn.mk ?_;intro N hN))))
 exact ft (vs:=[.own ⟨166003002,σ.next+2⟩ 0 ps.length]) (.inl rfl) (sd @Nat.zero_add) ⟨_,rfl,sd @Nat.zero_add,by(try dsimp only);omega,by(try dsimp only);omega,fun x hx=>by
  have:=dv hx
  simp only[go_sem, ↓reduceIte,Nat.reduceEqDiff,Nat.reduceAdd,Nat.reduceSub,Nat.reduceLeDiff,reduceCtorEq,this]⟩
theorem zQ (ps L:List ad) (hlen:ps.length<=1000000) (h0:ps≠[]) (hR:oj L) (hp:ps.Perm L) (σ:ar) (id:Id) (hv:id.bW<σ.next) (hg:σ.get id=some ⟨true,3,ps.map aa⟩):
  Call Tryz.prog 118 [.own id 0 ps.length] σ fun a σ'=>∃o:Id,a=.agg [.own o 0 L.length]/\σ'.get o=some ⟨true,3,L.map aa⟩/\σ.next<=o.bW/\o.bW<σ'.next/\∀x:Id,x.bW<σ.next->σ'.get x=σ.get x:=by
 refine eW eI rfl fun hl=>?_
 clear hl
 have v1:=dv hv
 (try((repeat(revert hN;revert N;apply Pn.out));refine wk (tw @hg @v1) ?_;(repeat(refine Pn.mk ?_;intro N hN))))
 refine .inr (aJ _ _ _ _ _ (fun r σ1 hq=>?_) (DH ps h0 (by omega) ⟨_,_⟩ id (by(try dsimp only);omega) (sd (tw @v1 @hg))))
 obtain⟨g1,x1⟩:=σ1
 obtain⟨o,rfl,q1,q2,q3,q4⟩:=hq
 (try dsimp only at q1 q2 q3 q4)
 have k2:=q4 ⟨118000000,σ.next⟩ (by(try dsimp only);omega)
 simp only[go_sem, ↓reduceIte,Nat.reduceEqDiff,Nat.reduceAdd,Nat.reduceSub,Nat.reduceLeDiff,reduceCtorEq]at k2
 refine hN _ _ ?_
 clear hN N
 (try((repeat(revert hN;revert N;apply Pn.out));refine wk @Nat.zero_add ?_;(repeat(refine Pn.mk ?_;intro N hN))))
 refine .inr (aJ _ _ _ _ _ (fun r σ2 hq=>?_) (Hy PH PI ps (by omega) ⟨g1,_⟩ o q1))
 obtain⟨g2,x2⟩:=σ2
 obtain⟨u1,u2,ss,u3,u4,u5,u6⟩:=hq
 (try dsimp only at u1 u2 u3)
 have hss:ss=L:=ES hR (u5.trans hp) u6
 rw[hss]at u3 u4
 have o2:(⟨118000000,σ.next⟩:Id)≠o:=fun e=>by rw[<-e]at q2;(try dsimp only at q2);omega
 have k3:=(u2 _ o2).trans k2
 have of:=eq_false (fun e:o=(⟨118000000,σ.next⟩:Id)=>o2 e.symm)
 refine hN _ _ ?_
 clear hN N
 (try((repeat(revert hN;revert N;apply Pn.out));refine wk @k3 ?_;(repeat(refine Pn.mk ?_;intro N hN))))
 exact ft (.inl rfl) (vs:=[.agg [.own o 0 ps.length]]) (sd @Nat.zero_add) ⟨o,by rw[u4];rfl,sd (tw @of @u3),by omega,by(try dsimp only);omega,fun x hx=>by
  have h1:x≠o:=fun e=>by rw[e]at hx;omega
  have h2:=u2 x h1
  have h3:=q4 x (by(try dsimp only);omega)
  have h4:=dv hx
  simp only[go_sem, ↓reduceIte,Nat.reduceEqDiff,Nat.reduceAdd,Nat.reduceSub,Nat.reduceLeDiff,reduceCtorEq,h4]at h3
  simp only[go_sem, ↓reduceIte,Nat.reduceEqDiff,Nat.reduceAdd,Nat.reduceSub,Nat.reduceLeDiff,reduceCtorEq,h4,h2,h3]⟩
def AsI (σ:ar) (T:Id) (ts:List ad) (pre:List (List AV)) (e0:Env) (s0:ar):Prop:=
 ∃l':List ad,pre=l'.map aa/\((l'=[]/\e0 3=.cC)∨∃o:Id,e0 3=.own o 0 l'.length/\s0.get o=some ⟨true,3,l'.map aa⟩/\σ.next<o.bW/\o.bW<s0.next)/\σ.next<s0.next/\(∀x:Id,x.bW<σ.next->x≠T->s0.get x=σ.get x)/\s0.get T=some ⟨false,mP.qd,ts.map aa⟩/\s0.get ⟨101000000,σ.next⟩=some ⟨true,1,[[.cC]]⟩/\e0 2=.ptr ⟨101000000,σ.next⟩ 0 0
theorem Ha (L:List ad) (x:ad):(L++[x]).length=L.length+1:=by rw[List.length_append];rfl
theorem Dw {σ:ar} {c T O:Id} {s:ax} {ts L:List ad} (h:mc σ.get σ.next c T O s ts) (hlen:ts.length<=100000) (h0:ts≠[]) (hR:oj L) (hp:ts.Perm L):
  Call Tryz.prog 101 [.ptr c 0 0] σ (fun r σ'=>∃o:Id,r=.agg [.own o 0 L.length]/\σ'.get o=some ⟨true,3,L.map aa⟩/\σ.next<=o.bW/\o.bW<σ'.next/\σ.next<=σ'.next/\∀x:Id,x.bW<σ.next->x≠T->σ'.get x=σ.get x):=by
 refine Py rfl mP ?_
 have fV:=h.row
 have Pc:=h.tl
 have v1:=dv h.cv
 have v2:=dv h.tv
 unfold PA
 rw[Fb]
 (try((repeat(revert hN;revert N;apply Pn.out));refine wk (tw @fV @v1) ?_;(repeat(refine Pn.mk ?_;intro N hN))))
 refine Da (Ss (id:=T) (r:=⟨true,mP.qd,ts.map aa⟩) (AsI σ T ts) (sd @E4.eq_1) (sd (tw @Pc @v2)) rfl (by decide) ?_ ?_ ?_)
 ·have vT:(T=(⟨101000000,σ.next⟩:Id))=False:=eq_false fun e=>by have:=h.tv;rw[e]at this;(try dsimp only at this);omega
  have vT2:((⟨101000000,σ.next⟩:Id)=T)=False:=eq_false fun e=>by have:=h.tv;rw[<-e]at this;(try dsimp only at this);omega
  exact⟨[],rfl,.inl ⟨rfl,sd @Nat.zero_add⟩,by(try dsimp only);omega,fun x hx hT=>by
   have h1:=dv hx
   have h2:=eq_false hT
   simp only[go_sem, ↓reduceIte,Nat.reduceEqDiff,Nat.reduceAdd,Nat.reduceSub,Nat.reduceLeDiff,reduceCtorEq,h1,h2],sd @Nat.zero_add,sd @vT2,sd @Nat.zero_add⟩
 ·rintro pre cs rest e0 s0 kv vv hpp ⟨l',rfl,hout,HZ,jV,hT,h5,e2⟩ hK hpart hvv
  have tF:cs∈ts.map aa:=hpp.subset (by simp)
  obtain⟨tl,hx,rfl⟩:=List.mem_map.1 tF
  have FJ:=hpp.length_eq
  simp only[List.length_append,List.length_map,List.length_cons]at FJ
  simp[part,aa,MK.ks]at hpart hvv
  subst hpart hvv
  rw[A5,A6]
  have SY:=h.tv
  have vT:=dv (i:=T) (n:=s0.next) (by omega)
  have v5:=dv (i:=⟨101000000,σ.next⟩) (n:=s0.next) (by(try dsimp only);omega)
  clear hpp tF hK
  have hm1:l'.map aa++[aa tl]=(l'++[tl]).map aa:=by simp
  have yp:=Ha l' tl
  have sk:(l'++[tl]).map aa=l'.map aa++[[.int .i64 tl.aP.fb,.int .i64 tl.aP.eV,.int .i64 tl.aT]]:=by rw[List.map_append];rfl
  rcases hout with⟨Nu,e3⟩|⟨o,e3,og,on,ov⟩
  ·subst Nu
   (try((repeat(revert hN;revert N;apply Pn.out));refine wk (tw @e3 @e2) ?_;(repeat(refine Pn.mk ?_;intro N hN))))
   exact⟨[]++[tl],hm1,.inr ⟨⟨101005005,s0.next+1+1⟩,sl @Nat.zero_add,sl @Nat.zero_add,by(try dsimp only);omega,by(try dsimp only);omega⟩,by(try dsimp only);omega,fun y hy RZ=>by
    have h1:=dv (i:=y) (n:=s0.next) (by omega)
    have h2:=jV y hy RZ
    simp only[go_sem, ↓reduceIte,Nat.reduceEqDiff,Nat.reduceAdd,Nat.reduceSub,Nat.reduceLeDiff,reduceCtorEq,h1,h2],sd (tw @vT @hT),sd (tw @v5 @h5),sd @e2⟩
  ·have vo:=dv ov
   have oT:=cH (a:=T) (b:=o) (by omega)
   have o5:=cH (a:=⟨101000000,σ.next⟩) (b:=o) (by(try dsimp only);omega)
   have lF:(l'.map aa).length=l'.length:=by simp
   have e1:l'.length<=16777215:=by omega
   (try((repeat(revert hN;revert N;apply Pn.out));refine wk (tw @e3 (tw @e2 (tw @og (tw @vo (tw @lF @e1))))) ?_;(repeat(refine Pn.mk ?_;intro N hN))))
   exact⟨l'++[tl],hm1,.inr ⟨⟨101005005,s0.next+1+1⟩,by rw[yp];simp only[go_sem, ↓reduceIte,Nat.reduceEqDiff,Nat.reduceAdd,Nat.reduceSub,Nat.reduceLeDiff,reduceCtorEq]<;>rfl,by rw[sk];simp only[go_sem, ↓reduceIte,Nat.reduceEqDiff,Nat.reduceAdd,Nat.reduceSub,Nat.reduceLeDiff,reduceCtorEq]<;>rfl,by(try dsimp only);omega,by(try dsimp only);omega⟩,by(try dsimp only);omega,fun y hy RZ=>by
    have h1:=dv (i:=y) (n:=s0.next) (by omega)
    have h2:=jV y hy RZ
    have h3:=cH (a:=y) (b:=o) (by omega)
    simp only[go_sem, ↓reduceIte,Nat.reduceEqDiff,Nat.reduceAdd,Nat.reduceSub,Nat.reduceLeDiff,reduceCtorEq,h1,h2,h3],sd (tw @vT (tw @oT @hT)),sd (tw @v5 (tw @o5 @h5)),sd @e2⟩
 ·rintro pre e0 s0 hpp ⟨l',rfl,hout,HZ,jV,hT,h5,e2⟩ hK
  clear hK
  have mD:l'.Perm ts:=by
   have:∀{a b:List ad},(a.map aa).Perm (b.map aa)->a.Perm b:=fun {a b} re=>by
    have h2:=re.map (fun cs:List AV=>match cs with|[.int _ x,.int _ y,.int _ t]=>(⟨⟨x,y⟩,t⟩:ad)|_=>default)
    simpa[List.map_map,Function.comp_def,aa]using h2
   exact this hpp
  have U4:=mD.length_eq
  rcases hout with⟨Nu,e3⟩|⟨o,e3,og,on,ov⟩
  ·exfalso
   subst Nu
   exact h0 (List.eq_nil_of_length_eq_zero U4.symm)
  have ik:l'≠[]:=fun e=>h0 (List.eq_nil_of_length_eq_zero (by rw[<-U4,e];rfl))
  (try((repeat(revert hN;revert N;apply Pn.out));refine wk (tw @A7.eq_1 (tw @A9.eq_1 (tw @e3 @e2))) ?_;(repeat(refine Pn.mk ?_;intro N hN))))
  refine .inr (aJ _ _ _ _ _ (fun r σ1 hq=>?_) (zQ l' L (by omega) ik hR (mD.trans hp) ⟨s0.get,_⟩ o (by(try dsimp only);omega) og))
  obtain⟨g1,x1⟩:=σ1
  obtain⟨o2,rfl,q1,q2,q3,q4⟩:=hq
  (try dsimp only at q1 q2 q3 q4)
  have k5:=(q4 ⟨101000000,σ.next⟩ (by(try dsimp only);omega)).trans h5
  have o25:=cH (a:=⟨101000000,σ.next⟩) (b:=o2) (by(try dsimp only);omega)
  refine hN _ _ ?_
  clear hN N
  (try((repeat(revert hN;revert N;apply Pn.out));refine wk (tw @A7.eq_1 (tw @A9.eq_1 (tw @e2 @k5))) ?_;(repeat(refine Pn.mk ?_;intro N hN))))
  exact ft (.inl rfl) (vs:=[.agg [.own o2 0 L.length]]) (by rw[A9];simp only[fA,iD,go_sem, ↓reduceIte,Nat.reduceEqDiff,Nat.reduceAdd,Nat.reduceSub,Nat.reduceLeDiff,reduceCtorEq,e2]) ⟨o2,rfl,sd (tw @o25 @q1),by omega,by(try dsimp only);omega,by(try dsimp only);omega,fun y hy RZ=>by
   have h1:=dv (i:=y) (n:=σ.next) hy
   simp only[go_sem, ↓reduceIte,Nat.reduceEqDiff,Nat.reduceAdd,Nat.reduceSub,Nat.reduceLeDiff,reduceCtorEq,h1]
   exact(q4 y (by omega)).trans (jV y hy RZ)⟩
theorem mc.three {g g':Rows} {n n':Nat} {c T O:Id} {s:ax} {ts:List ad} (h:mc g n c T O s ts) (hn:n<=n') (hc:g' c=g c) (hT:g' T=g T) (hO:g' O=g O):mc g' n' c T O s ts:=
 ⟨hc.trans h.row,hT.trans h.tl,by rw[hO];exact h.op,Nat.lt_of_lt_of_le h.cv hn,Nat.lt_of_lt_of_le h.tv hn,Nat.lt_of_lt_of_le h.ov hn,h.cT,h.cO,h.TO⟩
theorem zB (q:ad):∀l:List ad,(l++[q]).Perm (iK l q)
 |[]=>List.Perm.refl _
 |x::l=>by
  have ih:=zB q l
  rw[iK]
  split
  ·exact List.perm_append_comm (l₁:=x::l) (l₂:=[q])
  ·exact ih.cons x
structure oV (s:ax) (S:iO):Prop where
 at_:∀q,gw (s.aX.ae++S.1) q=gw S.2 q
 perm:(s.aX.ae++S.1).Perm S.2
theorem oV.fit {s:ax} {S:iO} (h:oV s S) (p:aH) (t:Int):jH s (s.aX.ae++S.1) p t=jH s S.2 p t:=by
 have e:gw (s.aX.ae++S.1)=gw S.2:=funext h.at_
 unfold jH
 rw[e]
theorem oV.no {s:ax} {S:iO} (h:oV s S) {p:aH} (h0:eG S.2 p<0):eG (s.aX.ae++S.1) p<0:=l5.2 fun t ht=>l5.1 h0 t (h.perm.subset ht)
theorem oV.put {s:ax} {S:iO} (h:oV s S) {x:ad} (h0:eG S.2 x.aP<0):oV s (S.1++[x],iK S.2 x) where
 at_ q:=by
  show gw (s.aX.ae++(S.1++[x])) q=gw (iK S.2 x) q
  rw[<-List.append_assoc,zR q (l5.1 (h.no h0)),BB q (l5.1 h0),h.at_]
 perm:=by
  show(s.aX.ae++(S.1++[x])).Perm (iK S.2 x)
  rw[<-List.append_assoc]
  exact(h.perm.append_right [x]).trans (zB x S.2)
structure NT (σ:ar) (m:Nat) (c T O:Id) (s:ax) (l:List ad) (S:iO) (e7:AV) (g:Rows) (n:Nat):Prop where
 xV:mc g n c T O s (s.aX.ae++S.1)
 u:(S.1=[]/\e7=.cC)∨∃u:Id,e7=.own u 0 S.1.length/\g u=some ⟨true,3,S.1.map aa⟩/\m<=u.bW/\u.bW<n/\0<S.1.length
 lo:m<=n
 fr:∀x:Id,x.bW<m->x≠T->x≠O->x≠c->g x=σ.get x
theorem NT.frame {σ:ar} {m:Nat} {c T O:Id} {s:ax} {l:List ad} {S:iO} {e7 Nc:AV} {g g':Rows} {n n':Nat} (h:NT σ m c T O s l S e7 g n) (he:Nc=e7) (hn:n<=n') (hf:∀x:Id,x.bW<n->g' x=g x):NT σ m c T O s l S Nc g' n' where
 xV:=h.xV.frame hn hf
 u:=by
  subst he
  rcases h.u with h1|⟨u,h1,h2,h3,h4,h5⟩
  ·exact .inl h1
  ·exact .inr ⟨u,h1,(hf u h4).trans h2,h3,by omega,h5⟩
 lo:=Nat.le_trans h.lo hn
 fr x hx h1 h2 h3:=(hf x (Nat.lt_of_lt_of_le hx h.lo)).trans (h.fr x hx h1 h2 h3)
theorem JD (s:ax) (hP:Bw s) (l:List ad) (hA:jc s.aD l) (hW:fa s.aX.ae l=true) (σ:ar):Call Tryz.prog 161 [.agg (au s),.agg [.sl (l.map aa)]] σ (fun r σ'=>∃v o,r=.gO [v,.agg [.own o 0 (kP s l).2.length]]/\(((kP s l).1=[]/\v=.cC)∨∃u:Id,v=.own u 0 (kP s l).1.length/\σ'.get u=some ⟨true,3,(kP s l).1.map aa⟩/\σ.next<=u.bW/\u.bW<σ'.next/\u.bW<o.bW/\0<(kP s l).1.length)/\σ'.get o=some ⟨true,3,(kP s l).2.map aa⟩/\σ.next<=o.bW/\o.bW<σ'.next/\∀x:Id,x.bW<σ.next->σ'.get x=σ.get x):=by
 refine eW eI rfl fun nB=>?_
 clear nB
 have Jc:=hA.1.oJ
 have GI:=tK hP hA hW
 have Qy:=GI.oJ
 (try dsimp only at Qy)
 have hsf:=hP.rJ
 (try((repeat(revert hN;revert N;apply Pn.out));refine wk @au.eq_1 ?_;(repeat(refine Pn.mk ?_;intro N hN))))
 have hc:=fun σ=>AD s hP.set s.aX.ae hP.rJ σ
 rw[au]at hc
 refine .inr (aJ _ _ _ _ _ (fun r σ1 hq=>?_) (hc _))
 obtain⟨g1,x1⟩:=σ1
 obtain⟨c,T,O,rfl,hC,S8,SY,hOv,rh,jV⟩:=hq
 (try dsimp only at hC S8 SY hOv rh jV)
 have k3:=jV ⟨161000001,σ.next⟩ (by(try dsimp only);omega)
 have k5:=jV ⟨161000003,σ.next⟩ (by(try dsimp only);omega)
 simp only[go_sem, ↓reduceIte,Nat.reduceEqDiff,Nat.reduceAdd,Nat.reduceSub,Nat.reduceLeDiff,reduceCtorEq]at k3 k5
 have hcx:=hC.cv
 have hTx:=hC.tv
 have hOx:=hC.ov
 refine hN _ _ ?_
 clear hN N
 (try((repeat(revert hN;revert N;apply Pn.out));refine wk (tw @k3 (tw @k5 @au.eq_1)) ?_;(repeat(refine Pn.mk ?_;intro N hN))))
 refine aW (fun n env st=>∃(S:iO) (m:Nat) (go:Bool),n=(if go then m else 0)/\env 8=.bool go/\(go=true->w8 s l m S=kP s l/\ph l S.2<m)/\(go=false->S=kP s l)/\oO s l S/\oV s S/\NT ⟨g1,x1⟩ x1 c T O s l S (env 7) st.get st.next) (l.length+1) ⟨([],s.aX.ae),l.length+1,true,rfl,sd @Nat.zero_add,fun _=>⟨rfl,by have:=FD l s.aX.ae;(try dsimp only);omega⟩,fun h=>(by cases h),GI,⟨fun q=>by simp,by simp⟩,?_⟩ ?_
 ·refine⟨?_,.inl ⟨rfl,sd @Nat.zero_add⟩,by(try dsimp only);omega,fun x hx h1 h2 h3=>sd @Nat.zero_add⟩
  have:=hC.frame (g':=g1) (n':=x1+1+1+1) (by omega) fun x hx=>rfl
  simpa using this
 rintro n1 e1 st1 ⟨S,m,go,rfl,e8,si,hend,hI,hSm,hR⟩ hk
 have c3:=hk 3 (by kernel_rfl)
 have c5:=hk 5 (by kernel_rfl)
 have c6:=hk 6 (by kernel_rfl)
 simp only[go_sem, ↓reduceIte,Nat.reduceEqDiff,Nat.reduceAdd,Nat.reduceSub,Nat.reduceLeDiff,reduceCtorEq]at c3 c5 c6
 clear hk hc
 have nv:∀{x y:Id},x.bW<y.bW->x≠y:=fun h e=>by rw[e]at h;omega
 have b3:=(hR.fr ⟨161000001,σ.next⟩ (by(try dsimp only);omega) (nv (by(try dsimp only);omega)) (nv (by(try dsimp only);omega)) (nv (by(try dsimp only);omega))).trans k3
 have b5:=(hR.fr ⟨161000003,σ.next⟩ (by(try dsimp only);omega) (nv (by(try dsimp only);omega)) (nv (by(try dsimp only);omega)) (nv (by(try dsimp only);omega))).trans k5
 have hRl:=hR.lo
 cases go
 ·have hS:=hend rfl
  subst hS
  clear hend si
  (try((repeat(revert hN;revert N;apply Pn.out));refine wk (tw @e8 @c6) ?_;(repeat(refine Pn.mk ?_;intro N hN))))
  have Dj:=hI.len
  have hsf2:=hI.oJ
  refine .inr (aJ _ _ _ _ _ (fun r σ2 hq=>?_) (Dw (σ:=⟨st1.get,_⟩) (L:=(kP s l).2) (hR.xV.frame (by(try dsimp only);omega) fun x _=>rfl) (by rw[List.length_append];omega) (fun e=>by have:=congrArg List.length e;rw[List.length_append,List.length_nil]at this;have:=hP.some;omega) hI.Dm hSm.perm))
  obtain⟨g2,x2⟩:=σ2
  obtain⟨o,rfl,q1,q2,q3,q4,q5⟩:=hq
  (try dsimp only at q1 q2 q3 q4 q5)
  have d5:=(q5 ⟨161000003,σ.next⟩ (by(try dsimp only);omega) (nv (by(try dsimp only);omega))).trans b5
  refine hN _ _ ?_
  clear hN N
  (try((repeat(revert hN;revert N;apply Pn.out));refine wk (tw @c5 (tw @d5 @c6)) ?_;(repeat(refine Pn.mk ?_;intro N hN))))
  have vv:∀x:Id,σ.next<x.bW->(x=(⟨161000003,σ.next⟩:Id))=False:=fun x hx=>eq_false fun e=>by rw[e]at hx;(try dsimp only at hx);omega
  have vo:=vv o (by omega)
  refine ft (.inl rfl) (vs:=[e1 7,.agg [.own o 0 (kP s l).2.length]]) (sd @c5) ⟨_,o,rfl,?_,sd (tw @vo @q1),by omega,by(try dsimp only);omega,fun x hx=>?_⟩
  ·rcases hR.u with h1|⟨u,h1,h2,h3,h4,h40⟩
   ·exact .inl h1
   ·have vu:=vv u (by omega)
    have h5:=(q5 u (by(try dsimp only);omega) (fun e=>by rw[e]at h3;omega)).trans h2
    exact .inr ⟨u,h1,sd (tw @vu @h5),by omega,by(try dsimp only);omega,by(try dsimp only at q2);omega,h40⟩
  ·have h1:=dv hx
   have h2:=q5 x (by omega) (nv (by omega))
   have h3:=hR.fr x (by omega) (nv (by omega)) (nv (by omega)) (nv (by omega))
   have h4:=jV x (by(try dsimp only);omega)
   simp only[go_sem, ↓reduceIte,Nat.reduceEqDiff,Nat.reduceAdd,Nat.reduceSub,Nat.reduceLeDiff,reduceCtorEq,h1]at h4
   (try dsimp only at h3)
   simp only[go_sem, ↓reduceIte,Nat.reduceEqDiff,Nat.reduceAdd,Nat.reduceSub,Nat.reduceLeDiff,reduceCtorEq,h1]
   exact h2.trans (h3.trans h4)
 ·obtain⟨hF,hm⟩:=si rfl
  clear hend si
  have Ec:fQ s l S 0=S:=by simp[fQ]
  (try((repeat(revert hN;revert N;apply Pn.out));refine wk (tw @e8 (tw @c3 @b3)) ?_;(repeat(refine Pn.mk ?_;intro N hN))))
  refine aW (fun n env st=>∃i:Nat,n=(l.length)-i/\i<=(l.length)/\env 19=.int .i64 (i:Int)/\(env 8=.bool (decide ((fQ s l S i).1.length≠S.1.length))/\oV s (fQ s l S i)/\NT ⟨g1,x1⟩ x1 c T O s l (fQ s l S i) (env 7) st.get st.next)) (l.length) ⟨0,by omega,by omega,sl (tw @c3 (tw @c5 @c6)),by(try dsimp only);exact⟨by rw[Ec];simp only[go_sem, ↓reduceIte,Nat.reduceEqDiff,Nat.reduceAdd,Nat.reduceSub,Nat.reduceLeDiff,reduceCtorEq]<;>simp,by rw[Ec];exact hSm,by rw[Ec];exact hR.frame (sd @Nat.zero_add) (by(try dsimp only);omega) fun x _=>rfl⟩⟩ ?_
  rintro n_b env_b st_b ⟨i,rfl,ble,b19,bI0⟩ gu
  have b3:=gu 3 (by kernel_rfl);have b5:=gu 5 (by kernel_rfl);have b6:=gu 6 (by kernel_rfl);have K1:=gu 17 (by kernel_rfl);have K2:=gu 18 (by kernel_rfl)
  simp only[go_sem, ↓reduceIte,Nat.reduceEqDiff,Nat.reduceAdd,Nat.reduceSub,Nat.reduceLeDiff,reduceCtorEq,c3,c5,c6]at b3 b5 b6 K1 K2
  clear gu
  obtain⟨b8,bS,bR⟩:=bI0
  obtain⟨Bl,Jf,Dg⟩:=xR hI hA i (by omega)
  by_cases hi:(i:Int)<(l.length:Int)
  ·have gp:∀{e:Env} {gg:Rows} {nx:Nat},(e 19=.int .i64 (IntKind.i64.wrap ((i:Int)+1)))->(e 8=.bool (decide ((fQ s l S (i+1)).1.length≠S.1.length))/\oV s (fQ s l S (i+1))/\NT ⟨g1,x1⟩ x1 c T O s l (fQ s l S (i+1)) (e 7) gg nx)->∃m0,m0<(l.length)-i/\∃i:Nat,m0=(l.length)-i/\i<=(l.length)/\e 19=.int .i64 (i:Int)/\(e 8=.bool (decide ((fQ s l S i).1.length≠S.1.length))/\oV s (fQ s l S i)/\NT ⟨g1,x1⟩ x1 c T O s l (fQ s l S i) (e 7) gg nx):=fun x1 x2=>⟨_,by omega,i+1,rfl,by omega,(by rw[x1,aB (by omega)]),x2⟩
   have fB:i<l.length:=by omega
   have zd:=rn s l S fB
   have hx:=gM fB
   have ht:=hA.2 _ hx
   have kh:=fC fB
   have Q9:=Bl.N3 hA
   have lF:(l.map aa).length=l.length:=by simp
   have UB:=Bl.oJ
   have UC:=Bl.len
   have L6:CO (aL l i).aP=true:=hA.1.pt fB
   generalize fQ s l S i=U at Bl Q9 zd UB UC Dg b8 bS bR
   have hFU:∀q,0<=gw (s.aX.ae++U.1) q->eO s.aD (gw (s.aX.ae++U.1) q)=true:=fun q hq=>by
    rw[bS.at_]at hq ⊢
    exact iF.Na Q9 q hq
   (try((repeat(revert hN;revert N;apply Pn.out));refine wk (tw @b19 (tw @b3 (tw @b5 (tw @b6 (tw @K1 (tw @K2 (tw @hi (tw @kh (tw @lF @aa.eq_1))))))))) ?_;(repeat(refine Pn.mk ?_;intro N hN))))
   have tD:=bS.fit (aL l i).aP (aL l i).aT
   refine .inl ⟨_,IU (bR.xV.xV.frame (by(try dsimp only);omega) (by(have:=dv bR.xV.cv);simp only[go_sem, ↓reduceIte,Nat.reduceEqDiff,Nat.reduceAdd,Nat.reduceSub,Nat.reduceLeDiff,reduceCtorEq,this]) (by(have:=dv bR.xV.tv);simp only[go_sem, ↓reduceIte,Nat.reduceEqDiff,Nat.reduceAdd,Nat.reduceSub,Nat.reduceLeDiff,reduceCtorEq,this])) hP.set hFU (aL l i).aP (aL l i).aT ht,?_⟩
   refine hN _ _ ?_
   clear hN N
   cases hf:jH s U.2 (aL l i).aP (aL l i).aT
   ·rw[w9 hf]at zd
    rw[hf]at tD
    (try((repeat(revert hN;revert N;apply Pn.out));refine wk (tw @b19 (tw @b3 (tw @b5 (tw @b6 (tw @K1 (tw @K2 (tw @tD @kh))))))) ?_;(repeat(refine Pn.mk ?_;intro N hN))))
    exact gp (sd (tw @b19 (tw @b3 (tw @b5 (tw @b6 (tw @K1 @K2)))))) (by(try dsimp only);exact⟨by rw[zd];simp only[go_sem, ↓reduceIte,Nat.reduceEqDiff,Nat.reduceAdd,Nat.reduceSub,Nat.reduceLeDiff,reduceCtorEq,b8],by rw[zd];exact bS,by rw[zd];exact bR.frame (sd @Nat.zero_add) (by(try dsimp only);omega) (fun y hy=>by
     have h9:=dv hy
     simp only[go_sem, ↓reduceIte,Nat.reduceEqDiff,Nat.reduceAdd,Nat.reduceSub,Nat.reduceLeDiff,reduceCtorEq,h9])⟩)
   ·rw[uD hf]at zd
    rw[hf]at tD
    (try((repeat(revert hN;revert N;apply Pn.out));refine wk (tw @b19 (tw @b3 (tw @b5 (tw @b6 (tw @K1 (tw @K2 (tw @tD @kh))))))) ?_;(repeat(refine Pn.mk ?_;intro N hN))))
    have h0:=bS.no (pf hA Bl.sub hf)
    have Ca:=bR.lo
    have cx:=bR.xV.cv
    have Tx:=bR.xV.tv
    have Ox:=bR.xV.ov
    refine .inr (aJ _ _ _ _ _ (fun r σ2 hq=>?_) (Sg (σ:=⟨bt (bt st_b.get ⟨161008002,st_b.next+1⟩ ⟨true,3,[[.int .i64 0,.int .i64 0,.int .i64 0]]⟩) ⟨161008002,st_b.next+1⟩ ⟨true,3,[[.int .i64 (aL l i).aP.fb,.int .i64 (aL l i).aP.eV,.int .i64 (aL l i).aT]]⟩,st_b.next+1+1+1+1⟩) (bR.xV.frame (by(try dsimp only);omega) fun x hx=>by
     have h9:=dv hx
     simp only[go_sem, ↓reduceIte,Nat.reduceEqDiff,Nat.reduceAdd,Nat.reduceSub,Nat.reduceLeDiff,reduceCtorEq,h9]) hP.set hFU (aL l i).aP L6 (aL l i).aT ht h0))
    obtain⟨g2,x2⟩:=σ2
    obtain⟨rfl,I0,LY,K9⟩:=hq
    (try dsimp only at I0 LY K9)
    have kt:=K9 ⟨161008002,st_b.next+1⟩ (by(try dsimp only);omega) (fun e=>by rw[<-e]at Tx;(try dsimp only at Tx);omega) (fun e=>by rw[<-e]at Ox;(try dsimp only at Ox);omega)
    simp only[go_sem, ↓reduceIte,Nat.reduceEqDiff,Nat.reduceAdd,Nat.reduceSub,Nat.reduceLeDiff,reduceCtorEq]at kt
    have ze:(⟨(aL l i).aP,(aL l i).aT⟩:ad)=aL l i:=rfl
    rw[ze,List.append_assoc]at I0
    have hd:decide ((U.1++[aL l i]).length≠S.1.length)=true:=decide_eq_true (by rw[iU];omega)
    have yp:=iU U.1 (aL l i)
    have sk:=sE U.1 (aL l i)
    have TI:=dv (i:=⟨161008002,st_b.next+1⟩) (n:=x2) (by(try dsimp only);omega)
    have c2:=dv I0.cv
    have T2:=dv I0.tv
    have O2:=dv I0.ov
    have Jd:∀y:Id,y.bW<x1->y≠T->y≠O->g2 y=st_b.get y:=fun y hy h1 h2=>by
     have h3:=K9 y (by omega) h1 h2
     have h4:=dv (i:=y) (n:=st_b.next) (by omega)
     simp only[go_sem, ↓reduceIte,Nat.reduceEqDiff,Nat.reduceAdd,Nat.reduceSub,Nat.reduceLeDiff,reduceCtorEq,h4]at h3
     exact h3
    refine hN _ _ ?_
    clear hN N
    rcases bR.u with⟨hU,b7⟩|⟨u,b7,bu,hu3,hu4,_⟩
    ·(try((repeat(revert hN;revert N;apply Pn.out));refine wk (tw @b19 (tw @b3 (tw @b5 (tw @b6 (tw @K1 (tw @K2 (tw @b7 (tw @kt @TI)))))))) ?_;(repeat(refine Pn.mk ?_;intro N hN))))
     exact gp (sd (tw @b19 (tw @b3 (tw @b5 (tw @b6 (tw @K1 @K2)))))) (by(try dsimp only);exact⟨by rw[zd,hd]<;>simp only[go_sem, ↓reduceIte,Nat.reduceEqDiff,Nat.reduceAdd,Nat.reduceSub,Nat.reduceLeDiff,reduceCtorEq],by rw[zd];exact bS.put (pf hA Bl.sub hf),by
      rw[zd]
      refine⟨I0.three (by(try dsimp only);omega) (sd @c2) (sd @T2) (sd @O2),.inr ⟨⟨161011003,x2+1⟩,by rw[yp,hU];simp only[go_sem, ↓reduceIte,Nat.reduceEqDiff,Nat.reduceAdd,Nat.reduceSub,Nat.reduceLeDiff,reduceCtorEq]<;>rfl,by rw[sk,hU];simp only[go_sem, ↓reduceIte,Nat.reduceEqDiff,Nat.reduceAdd,Nat.reduceSub,Nat.reduceLeDiff,reduceCtorEq]<;>rfl,by(try dsimp only);omega,by(try dsimp only);omega,by(try dsimp only);rw[iU];omega⟩,by(try dsimp only);omega,fun y hy h1 h2 h3=>?_⟩
      have h4:=dv (i:=y) (n:=x2) (by omega)
      have h5:=Jd y hy h1 h2
      have h6:=bR.fr y hy h1 h2 h3
      (try dsimp only at h6)
      simp only[go_sem, ↓reduceIte,Nat.reduceEqDiff,Nat.reduceAdd,Nat.reduceSub,Nat.reduceLeDiff,reduceCtorEq,h4,h5,h6]⟩)
    ·have ku:=K9 u (by(try dsimp only);omega) (fun e=>by rw[e]at hu3;omega) (fun e=>by rw[e]at hu3;omega)
     have vu:=dv hu4
     simp only[go_sem, ↓reduceIte,Nat.reduceEqDiff,Nat.reduceAdd,Nat.reduceSub,Nat.reduceLeDiff,reduceCtorEq,vu,bu]at ku
     have VL:=dv (i:=u) (n:=x2) (by omega)
     have ut:=cH (a:=u) (b:=⟨161008002,st_b.next+1⟩) (by(try dsimp only);omega)
     have Vv:(U.1.map aa).length=U.1.length:=by simp
     have Tv:U.1.length<=16777215:=by omega
     have uc:=cH (a:=c) (b:=u) (by omega)
     have uT:=cH (a:=T) (b:=u) (by omega)
     have uO:=cH (a:=O) (b:=u) (by omega)
     (try((repeat(revert hN;revert N;apply Pn.out));refine wk (tw @b19 (tw @b3 (tw @b5 (tw @b6 (tw @K1 (tw @K2 (tw @b7 (tw @kt (tw @TI (tw @ku (tw @VL (tw @ut (tw @Vv @Tv))))))))))))) ?_;(repeat(refine Pn.mk ?_;intro N hN))))
     exact gp (sd (tw @b19 (tw @b3 (tw @b5 (tw @b6 (tw @K1 @K2)))))) (by(try dsimp only);exact⟨by rw[zd,hd]<;>simp only[go_sem, ↓reduceIte,Nat.reduceEqDiff,Nat.reduceAdd,Nat.reduceSub,Nat.reduceLeDiff,reduceCtorEq],by rw[zd];exact bS.put (pf hA Bl.sub hf),by
      rw[zd]
      refine⟨I0.three (by(try dsimp only);omega) (sd (tw @c2 @uc)) (sd (tw @T2 @uT)) (sd (tw @O2 @uO)),.inr ⟨⟨161011003,x2+1⟩,by rw[yp];simp only[go_sem, ↓reduceIte,Nat.reduceEqDiff,Nat.reduceAdd,Nat.reduceSub,Nat.reduceLeDiff,reduceCtorEq]<;>rfl,by rw[sk];simp only[go_sem, ↓reduceIte,Nat.reduceEqDiff,Nat.reduceAdd,Nat.reduceSub,Nat.reduceLeDiff,reduceCtorEq]<;>rfl,by(try dsimp only);omega,by(try dsimp only);omega,by(try dsimp only);rw[iU];omega⟩,by(try dsimp only);omega,fun y hy h1 h2 h3=>?_⟩
      have h4:=dv (i:=y) (n:=x2) (by omega)
      have h5:=Jd y hy h1 h2
      have h6:=bR.fr y hy h1 h2 h3
      have h7:=cH (a:=y) (b:=u) (by omega)
      (try dsimp only at h6)
      simp only[go_sem, ↓reduceIte,Nat.reduceEqDiff,Nat.reduceAdd,Nat.reduceSub,Nat.reduceLeDiff,reduceCtorEq,h4,h5,h6,h7]⟩)
  ·have lV:i=l.length:=by omega
   subst lV
   rw[p7]at Bl b8 Jf bS bR
   have rh:=zi hI hA hm
   (try((repeat(revert hN;revert N;apply Pn.out));refine wk (tw @b19 (tw @b3 (tw @b5 (tw @b6 (tw @K1 (tw @K2 @hi)))))) ?_;(repeat(refine Pn.mk ?_;intro N hN))))
   by_cases he:(gH s l S).1.length=S.1.length
   ·refine⟨0,by show 0<m;omega,gH s l S,0,false,rfl,?_,fun h=>(by cases h),fun _=>(rh.1 he).symm.trans hF,Bl,bS,bR.frame (sd @Nat.zero_add) (by(try dsimp only);omega) fun x _=>rfl⟩
    simp only[go_sem, ↓reduceIte,Nat.reduceEqDiff,Nat.reduceAdd,Nat.reduceSub,Nat.reduceLeDiff,reduceCtorEq,b8,he]<;>simp
   ·obtain⟨m',rfl,LL,HY⟩:=rh.2 he
    refine⟨m',Nat.lt_succ_self _,gH s l S,m',true,rfl,?_,fun _=>⟨LL.symm.trans hF,HY⟩,fun h=>(by cases h),Bl,bS,bR.frame (sd @Nat.zero_add) (by(try dsimp only);omega) fun x _=>rfl⟩
    have hd:=decide_eq_true he
    simp only[go_sem, ↓reduceIte,Nat.reduceEqDiff,Nat.reduceAdd,Nat.reduceSub,Nat.reduceLeDiff,reduceCtorEq,b8]
    rw[hd]
structure Qd (g:Rows) (n:Nat) (A S C c T O:Id) (s:ax) (l:List ad):Prop where
 a:∃b,g A=some ⟨b,1,[[.sl (l.map aa)]]⟩
 sy:∃b,g S=some ⟨b,4,[au s]⟩
 p:∃b,g C=some ⟨b,1,[[.ptr c 0 0]]⟩
 xV:Db g n c T O s l
 av:A.bW<n
 sv:S.bW<n
 pv:C.bW<n
theorem Qd.ro {g:Rows} {n:Nat} {A S C c T O:Id} {s:ax} {l:List ad} (h:Qd g n A S C c T O s l):Qd (V.ro g) n A S C c T O s l:=by
 obtain⟨b,h1⟩:=h.a
 obtain⟨b2,h2⟩:=h.sy
 obtain⟨b3,h3⟩:=h.p
 exact⟨⟨false,by simp[V.ro,h1]⟩,⟨false,by simp[V.ro,h2]⟩,⟨false,by simp[V.ro,h3]⟩,h.xV.ro,h.av,h.sv,h.pv⟩
theorem Qd.frame {g g':Rows} {n n':Nat} {A S C c T O:Id} {s:ax} {l:List ad} (h:Qd g n A S C c T O s l) (hn:n<=n') (hf:∀x:Id,x.bW<n->g' x=g x):Qd g' n' A S C c T O s l:=
 ⟨by rw[hf _ h.av];exact h.a,by rw[hf _ h.sv];exact h.sy,by rw[hf _ h.pv];exact h.p,h.xV.frame hn (hf _ h.xV.cv) (hf _ h.xV.tv),Nat.lt_of_lt_of_le h.av hn,Nat.lt_of_lt_of_le h.sv hn,Nat.lt_of_lt_of_le h.pv hn⟩
def iT (p:aH->Bool) (l:List aH):List aH:=l.filter fun x=> !p x
theorem rz {p:aH->Bool} {l:List aH} {j:Nat} (hj:j<l.length):iT p (l.take (j+1))=iT p (l.take j)++if p l[j]=true then[]else[l[j]]:=by
 unfold iT
 rw[List.take_succ_eq_append_getElem hj,List.filter_append]
 congr 1
 cases h:p l[j]<;>simp[h]
theorem Ej {p:aH->Bool} {l:List aH} (h:∀b∈l,p b=false):iT p l=l:=by
 unfold iT
 rw[List.filter_eq_self]
 intro b hb
 rw[h b hb];rfl
structure KZ (p:aH->Bool) (bs:List aH) (j:Nat) (R:List aH):Prop where
 len:R.length=bs.length
 pre:R.take (iT p (bs.take j)).length=iT p (bs.take j)
 post:∀x,j<=x->R[x]? =bs[x]?
 lt:(iT p (bs.take j)).length<j
theorem KZ.start {p:aH->Bool} {bs:List aH} {i:Nat} (hi:i<bs.length) (hw:p bs[i]=true) (hp:∀x (h:x<i),p bs[x]=false):KZ p bs (i+1) bs/\(iT p (bs.take (i+1))).length=i:=by
 have h1:iT p (bs.take i)=bs.take i:=Ej fun b hb=>by
  obtain⟨x,hx,rfl⟩:=List.getElem_of_mem hb
  rw[List.length_take]at hx
  rw[List.getElem_take]
  exact hp x (by omega)
 have h2:iT p (bs.take (i+1))=bs.take i:=by rw[rz hi,if_pos hw,List.append_nil,h1]
 have h3:(bs.take i).length=i:=by rw[List.length_take];omega
 exact⟨⟨rfl,by rw[h2,h3],fun _ _=>rfl,by rw[h2,h3];omega⟩,by rw[h2,h3]⟩
theorem KZ.Sv {p:aH->Bool} {bs R:List aH} {j:Nat} (h:KZ p bs j R) (hj:j<bs.length) (hw:p bs[j]=true):KZ p bs (j+1) R/\(iT p (bs.take (j+1))).length=(iT p (bs.take j)).length:=by
 have h2:iT p (bs.take (j+1))=iT p (bs.take j):=by rw[rz hj,if_pos hw,List.append_nil]
 exact⟨⟨h.len,by rw[h2];exact h.pre,fun x hx=>h.post x (by omega),by rw[h2];have:=h.lt;omega⟩,by rw[h2]⟩
theorem KZ.rq {p:aH->Bool} {bs R:List aH} {j:Nat} (h:KZ p bs j R) (hj:j<bs.length) (hw:p bs[j]=false):KZ p bs (j+1) (R.set (iT p (bs.take j)).length bs[j])/\(iT p (bs.take (j+1))).length=(iT p (bs.take j)).length+1:=by
 have h2:iT p (bs.take (j+1))=iT p (bs.take j)++[bs[j]]:=by rw[rz hj,hw];rfl
 have dY:=h.lt
 have hlen:=h.len
 have vd:=h.pre
 generalize hc:(iT p (bs.take j)).length=c at *
 refine⟨⟨by rw[List.length_set];exact hlen,?_,fun x hx=>?_,by rw[h2,List.length_append,hc];simp;omega⟩,by rw[h2,List.length_append,hc];rfl⟩
 ·rw[h2,List.length_append,hc,List.length_singleton,List.take_succ_eq_append_getElem (by rw[List.length_set];omega),List.getElem_set_self,List.take_set_of_le (Nat.le_refl _),vd]
 ·rw[List.getElem?_set_ne (by omega)];exact h.post x (by omega)
theorem KZ.at_ {p:aH->Bool} {bs R:List aH} {j:Nat} (h:KZ p bs j R) (hj:j<bs.length):(R.map ah)[j]? =some (ah bs[j]):=by
 rw[List.getElem?_map,h.post j (Nat.le_refl j),List.getElem?_eq_getElem hj];rfl
structure nT (n:Nat) (px:Nat->Option Nat) (L:Nat->Nat):Prop where
 top:∀k,k<n->px k=none->L k=k
 up:∀k j,k<n->px k=some j->j<k/\L j=L k
theorem nT.root {n:Nat} {px:Nat->Option Nat} {L:Nat->Nat} (h:nT n px L) (hL:jM L) {k:Nat} (hk:k<n) (hr:L k=k):px k=none:=by
 rcases hp:px k with _|j
 ·rfl
 ·obtain⟨h1,h2⟩:=h.up k j hk hp
  have:=hL.le j
  omega
theorem nT.start (n:Nat):nT n (fun _=>none) id:=⟨fun _ _ _=>rfl,fun _ _ _ h=>by cases h⟩
theorem nT.join {n:Nat} {px:Nat->Option Nat} {L:Nat->Nat} (h:nT n px L) (hL:jM L) (b:PB) (dY:min (L b.a) (L b.b)<max (L b.a) (L b.b)):nT n (fun k=>if k=max (L b.a) (L b.b)then some (min (L b.a) (L b.b))else px k) (eR L b):=by
 have ha:=hL.idem b.a
 have hb:=hL.idem b.b
 have Al:L (min (L b.a) (L b.b))=min (L b.a) (L b.b):=by
  rcases Nat.le_total (L b.a) (L b.b)with h|h
  ·rw[Nat.min_eq_left h,ha]
  ·rw[Nat.min_eq_right h,hb]
 have RD:L (max (L b.a) (L b.b))=max (L b.a) (L b.b):=by
  rcases Nat.le_total (L b.a) (L b.b)with h|h
  ·rw[Nat.max_eq_right h,hb]
  ·rw[Nat.max_eq_left h,ha]
 unfold eR
 generalize min (L b.a) (L b.b)=lo at *
 generalize max (L b.a) (L b.b)=hi at *
 refine⟨fun k hk hp=>?_,fun k j hk hp=>?_⟩
 ·by_cases Le:k=hi
  ·rw[if_pos Le]at hp;cases hp
  ·rw[if_neg Le]at hp
   have:=h.top k hk hp
   rw[if_neg (by omega)];exact this
 ·by_cases Le:k=hi
  ·rw[if_pos Le]at hp
   cases hp
   subst Le
   exact⟨dY,by rw[if_neg (by omega),if_pos RD,Al]⟩
  ·rw[if_neg Le]at hp
   obtain⟨h1,h2⟩:=h.up k j hk hp
   exact⟨h1,by rw[h2]⟩
theorem As {L:Nat->Nat} {b:PB} (h:L b.a=L b.b):eR L b=L:=by
 funext k
 unfold eR
 rw[h,Nat.max_self,Nat.min_self]
 split
 ·rename_i h;exact h.symm
 ·rfl
def tx (G:Nat->Id) (px:Nat->Option Nat) (k:Nat):List AV:=[match px k with|none=>.gY|some j=>.ptr (G j) 0 0,.int .i64 (k:Int)]
def uQ (g:Rows) (G:Nat->Id) (n:Nat) (px:Nat->Option Nat):Prop:=∀k,k<n->g (G k)=some ⟨true,2,[tx G px k]⟩
theorem uQ.frame {g g':Rows} {G:Nat->Id} {n:Nat} {px:Nat->Option Nat} (h:uQ g G n px) (hf:∀k,k<n->g' (G k)=g (G k)):uQ g' G n px:=fun k hk=>(hf k hk).trans (h k hk)
theorem lU {G:Nat->Id} {px:Nat->Option Nat} {k:Nat} (h:px k=none):tx G px k=[.gY,.int .i64 (k:Int)]:=by rw[tx,h]
theorem uy {G:Nat->Id} {px:Nat->Option Nat} {k j:Nat} (h:px k=some j):tx G px k=[.ptr (G j) 0 0,.int .i64 (k:Int)]:=by rw[tx,h]
theorem z7 (G:Nat->Id) (n:Nat) (px:Nat->Option Nat) (L:Nat->Nat) (h:nT n px L) (k:Nat) (hk:k<n) (σ:ar) (hG:uQ σ.get G n px):
  Call Tryz.prog 334 [.ptr (G k) 0 0] σ fun r σ'=>r=.ptr (G (L k)) 0 0/\σ'.get=σ.get/\σ.next<=σ'.next:=by
 refine eW eI rfl fun hl=>?_
 clear hl
 (try((repeat(revert hN;revert N;apply Pn.out));refine wk @Nat.zero_add ?_;(repeat(refine Pn.mk ?_;intro N hN))))
 refine aW (fun m env st=>∃j:Nat,m=j/\j<n/\env 0=.ptr (G j) 0 0/\L j=L k/\st.get=σ.get/\σ.next<=st.next) k ⟨k,rfl,hk,sd @Nat.zero_add,rfl,by(try dsimp only),by(try dsimp only);omega⟩ ?_
 rintro m env_b st_b ⟨j,rfl,hj,b0,hLj,hg,hle⟩ gu
 clear gu
 have fV:=hG m hj
 rcases hp:px m with _|j
 ·rw[lU hp]at fV
  (try((repeat(revert hN;revert N;apply Pn.out));refine wk (tw @b0 (tw @hg @fV)) ?_;(repeat(refine Pn.mk ?_;intro N hN))))
  exact ft (.inl rfl) (vs:=[.ptr (G m) 0 0]) (sd @Nat.zero_add) ⟨by rw[<-hLj,h.top m hj hp];rfl,by first|trivial|rfl|exact hg,by(try dsimp only);omega⟩
 ·rw[uy hp]at fV
  obtain⟨h1,h2⟩:=h.up m j hj hp
  (try((repeat(revert hN;revert N;apply Pn.out));refine wk (tw @b0 (tw @hg @fV)) ?_;(repeat(refine Pn.mk ?_;intro N hN))))
  exact⟨j,h1,j,rfl,by omega,sd @Nat.zero_add,by omega,by first|trivial|rfl|exact hg,by(try dsimp only);omega⟩
end Go.Proofs.YtgoljkjaameagaaGreat.V

namespace Go.Proofs.YtgoljkjaameagaaGreat.V
open Go.RowKit
attribute [local irreducible] dL wpOps gC Call
attribute [local go_sem] aO fM eS ga fZ cU upd cD K.av cR AV.cells AV.cell rowOf rowsOf part ld rowAt bt cw dG ei iu bK dm eB fY e6 dt ep di dh dV dW bU bd cZ bQ db da ek er eo cY ck dj ej bP aQ dd cJ iq br cN bV aZ dr bc dH AV.undef bF bJ dX eh dR dO cK eA eC cI ev eu dc de List.getD_cons_zero List.getD_cons_succ List.getD_nil List.all_cons List.all_nil Bool.and_true Bool.true_and Bool.and_self Bool.not_true Bool.not_false Option.map_some Option.map_none Option.bind_some Option.bind_none List.length_cons List.length_nil List.take_succ_cons List.take_zero List.take_nil List.drop_succ_cons List.drop_zero List.drop_nil List.head?_cons List.map_cons List.map_nil List.getElem?_cons_zero List.getElem?_cons_succ List.cons_append List.nil_append List.append_nil List.length_map List.set_cons_zero List.set_cons_succ eq_self Int.toNat_natCast Int.natCast_nonneg and_self true_and and_true decide_true decide_false Bool.false_eq_true Nat.zero_add Nat.add_zero List.contains_cons List.contains_nil Bool.or_false Bool.false_or beq_self_eq_true ne_eq not_true_eq_false not_false_eq_true Id.mk.injEq false_and and_false Nat.le_refl List.length_append beq_true beq_false Bool.not_eq_eq_eq_not or_false false_or dP ai aq aI bh bE cz aY bl aV bf cW bH
abbrev mI:MK:=⟨false,[.tI]⟩
def tJ (l:List (Nat×Nat)):List (List AV):=l.map fun p=>[.int .i64 (p.1:Int),.int .i64 (p.2:Int)]
theorem Cl (r:Nat):∀(l:List (Nat×Nat)) (i:Nat),((∀p∈l,p.1≠r)->gn mI [.int .i64 (r:Int)] (tJ l) i=some none)/\(∀j v,l[j]? =some (r,v)->(∀x y,x<j->l[x]? =some y->y.1≠r)->gn mI [.int .i64 (r:Int)] (tJ l) i=some (some (i+j)))
 |[],i=>⟨fun _=>rfl,fun j v h=>by simp at h⟩
 |p::l,i=>by
  obtain⟨h1,h2⟩:=Cl r l (i+1)
  by_cases h:p.1=r
  ·refine⟨fun hp=>absurd h (hp p (by simp)),fun j v hj hf=>?_⟩
   have hj0:j=0:=by
    rcases Nat.eq_zero_or_pos j with h0|h0
    ·exact h0
    ·exact absurd h (hf 0 p h0 (by simp))
   subst hj0
   simp[tJ,gn,e6,fY,MK.ks,h]
  ·have hd:¬((r:Int)=(p.1:Int)):=by omega
   have oy:¬r=p.1:=fun he=>h he.symm
   have step:gn mI [.int .i64 (r:Int)] (tJ (p::l)) i=gn mI [.int .i64 (r:Int)] (tJ l) (i+1):=by
    unfold tJ
    simp[gn,MK.ks,e6,fY,hd,oy,h]
   rw[step]
   refine⟨fun hp=>h1 fun q hq=>hp q (by simp[hq]),fun j v hj hf=>?_⟩
   cases j with
   |zero=>simp at hj;rw[hj]at h;exact absurd rfl h
   |succ j=>
    rw[h2 j v (by simpa using hj) fun x y hx hy=>hf (x+1) y (by omega) (by simpa using hy)]
    congr 2;omega
theorem zh {r:Nat} {l:List (Nat×Nat)}:((∀p∈l,p.1≠r)->fR mI (.int .i64 (r:Int)) (tJ l)=some none)/\(∀j v,l[j]? =some (r,v)->(∀x y,x<j->l[x]? =some y->y.1≠r)->fR mI (.int .i64 (r:Int)) (tJ l)=some (some j)):=by
 have e:fR mI (.int .i64 (r:Int)) (tJ l)=gn mI [.int .i64 (r:Int)] (tJ l) 0:=by
  unfold fR
  rw[if_pos ⟨rfl,rfl,rfl⟩];rfl
 obtain⟨h1,h2⟩:=Cl r l 0
 rw[e]
 exact⟨h1,fun j v hj hf=>by rw[h2 j v hj hf,Nat.zero_add]⟩
def lg (k:Nat) (L:Nat->Nat):List (List AV):=tJ (leads k L).zipIdx
theorem Eo {k:Nat} {L:Nat->Nat} (h:L k=k):lg (k+1) L=lg k L++[[.int .i64 (k:Int),.int .i64 ((leads k L).length:Int)]]:=by
 unfold lg
 rw[gW,if_pos h,List.zipIdx_append]
 simp[tJ]
theorem En {k:Nat} {L:Nat->Nat} (h:L k≠k):lg (k+1) L=lg k L:=by
 unfold lg
 rw[gW,if_neg h,List.append_nil]
theorem G8 {k:Nat} {L:Nat->Nat} (h:L k=k):fR mI (.int .i64 (k:Int)) (lg k L)=some none:=by
 refine zh.1 fun p hp=>?_
 have:=List.fst_mem_of_mem_zipIdx hp
 have:=(zq.1 this).1
 omega
theorem zp {n:Nat} {L:Nat->Nat} {x y:Nat} (hx:x<(leads n L).length) (hy:y<(leads n L).length) (h:(leads n L)[x]=(leads n L)[y]):x=y:=by
 have hp:=List.pairwise_iff_getElem.1 (uF n L)
 rcases Nat.lt_trichotomy x y with dY|he|dY
 ·exact absurd h (hp x y hx hy dY)
 ·exact he
 ·exact absurd h.symm (hp y x hy hx dY)
theorem zo {k:Nat} {L:Nat->Nat} (hL:jM L) (h:L k≠k):fR mI (.int .i64 (L k:Int)) (lg k L)=some (some (cm L k))/\(lg k L)[cm L k]? =some [.int .i64 (L k:Int),.int .i64 (cm L k:Int)]/\cm L k<(leads k L).length:=by
 have dY:L k<k:=Nat.lt_of_le_of_ne (hL.le k) h
 have hn:cm L (L k)=cm L k:=by rw[cm,hL.idem,cm]
 have hg:=p9 hL dY
 rw[hn,hL.idem]at hg
 have hl:cm L k<(leads k L).length:=(List.getElem?_eq_some_iff.1 hg).1
 have hz:(leads k L).zipIdx[cm L k]? =some (L k,cm L k):=by simp[List.getElem?_zipIdx,hg]
 refine⟨zh.2 _ _ hz fun x y hx hy=>?_,by unfold lg tJ;rw[List.getElem?_map,hz];rfl,hl⟩
 intro he
 rw[List.getElem?_zipIdx]at hy
 have QC:x<(leads k L).length:=by omega
 rw[List.getElem?_eq_getElem QC]at hy
 simp at hy
 rw[<-hy]at he
 simp at he
 have e2:(leads k L)[cm L k]=L k:=(List.getElem?_eq_some_iff.1 hg).2
 have:=zp QC hl (he.trans e2.symm)
 omega
def jT (k:Nat) (L:Nat->Nat):List (List Nat):=(leads k L).map (members k L)
theorem qZ (k:Nat) (L:Nat->Nat):(jT k L).length=(leads k L).length:=by simp[jT]
theorem DS {k:Nat} {L:Nat->Nat} (hL:jM L) (h:L k=k):jT (k+1) L=jT k L++[[k]]:=by
 unfold jT
 rw[gW,if_pos h,List.map_append,List.map_cons,List.map_nil,jz,if_pos h,nD hL (Nat.le_refl k),List.nil_append]
 congr 1
 refine List.map_congr_left fun r hr=>?_
 have:=(zq.1 hr).1
 rw[jz,if_neg (by omega),List.append_nil]
theorem DT {k:Nat} {L:Nat->Nat} (hL:jM L) (h:L k≠k):(jT k L)[cm L k]? =some (members k L (L k))/\jT (k+1) L=(jT k L).set (cm L k) (members k L (L k)++[k]):=by
 obtain⟨_,_,hl⟩:=zo hL h
 have dY:L k<k:=Nat.lt_of_le_of_ne (hL.le k) h
 have hg:=p9 hL dY
 have hn:cm L (L k)=cm L k:=by rw[cm,hL.idem,cm]
 rw[hn,hL.idem]at hg
 refine⟨by unfold jT;rw[List.getElem?_map,hg];rfl,?_⟩
 unfold jT
 rw[gW,if_neg h,List.append_nil]
 refine List.ext_getElem? fun i=>?_
 rw[List.getElem?_set,List.getElem?_map,List.length_map]
 by_cases hi:cm L k=i
 ·subst hi
  rw[if_pos rfl,if_pos hl,hg,Option.map_some,jz,if_pos rfl]
 ·rw[if_neg hi,List.getElem?_map]
  rcases hr:(leads k L)[i]? with _|r
  ·rfl
  ·rw[Option.map_some,Option.map_some,jz,if_neg,List.append_nil]
   rintro rfl
   obtain⟨lV,he⟩:=List.getElem?_eq_some_iff.1 hr
   have e2:(leads k L)[cm L k]=L k:=(List.getElem?_eq_some_iff.1 hg).2
   exact hi (zp hl lV (e2.trans he.symm))
theorem Cz (k:Nat) (L:Nat->Nat) (r:Nat):(members k L r).length<=k:=by
 have:=List.length_filter_le (fun x=>L x==r) (List.range k)
 simpa[members]using this
def Ge (g:Rows) (o:Id) (L:List (List Nat)) (nx:Nat):Prop:=∃rows ids,g o=some ⟨true,1,rows⟩/\eK Qc g rows L ids/\ids.Nodup/\(∀i∈ids,i.site=320026008/\i.bW<nx)/\o.site=320025002/\o.bW<nx
theorem Ge.frame {g g':Rows} {o:Id} {L:List (List Nat)} {nx vV:Nat} (h:Ge g o L nx) (hn:nx<=vV) (hf:∀i:Id,(i.site=320026008∨i.site=320025002)->i.bW<nx->g' i=g i):Ge g' o L vV:=by
 obtain⟨rows,ids,h1,h2,h3,h4,h5,h6⟩:=h
 exact⟨rows,ids,(hf o (.inr h5) h6).trans h1,h2.frame Mo fun i hi=>hf i (.inl (h4 i hi).1) (h4 i hi).2,h3,fun i hi=>⟨(h4 i hi).1,by have:=(h4 i hi).2;omega⟩,h5,by omega⟩
theorem LK {g':Rows} {v v' vV j:Nat} (h1:g' ⟨320025002,v⟩=some ⟨true,1,[[.own ⟨320026008,v'⟩ 0 1]]⟩) (h2:g' ⟨320026008,v'⟩=some ⟨true,1,[eN j]⟩) (hv:v<vV) (oG:v'<vV):Ge g' ⟨320025002,v⟩ [[j]] vV:=
 ⟨_,[⟨320026008,v'⟩],h1,.one ⟨_,rfl,h2,rfl⟩,by simp,fun i hi=>by rw[List.mem_singleton.1 hi];exact⟨rfl,oG⟩,rfl,hv⟩
theorem Ge.new {g:Rows} {o:Id} {L:List (List Nat)} {nx:Nat} (h:Ge g o L nx) (j:Nat):∃rows,g o=some ⟨true,1,rows⟩/\rows.length=L.length/\∀(g':Rows) (v v' vV:Nat),nx<=v'->v<vV->v'<vV->g' ⟨320025002,v⟩=some ⟨true,1,rows++[[.own ⟨320026008,v'⟩ 0 1]]⟩->g' ⟨320026008,v'⟩=some ⟨true,1,[eN j]⟩->(∀i:Id,i.site=320026008->i.bW<nx->g' i=g i)->Ge g' ⟨320025002,v⟩ (L++[[j]]) vV:=by
 obtain⟨rows,ids,h1,h2,h3,h4,h5,h6⟩:=h
 refine⟨rows,h1,h2.len,fun g' v v' vV hv uA Jw q1 q2 q3=>⟨_,ids++[⟨320026008,v'⟩],q1,(h2.frame Mo fun i hi=>q3 i (h4 i hi).1 (h4 i hi).2).app (.one ⟨_,rfl,q2,rfl⟩),?_,fun i hi=>?_,rfl,uA⟩⟩
 ·refine List.nodup_append.2 ⟨h3,by simp,fun a ha b hb re=>?_⟩
  rw[List.mem_singleton.1 hb]at re
  have:=(h4 a ha).2
  rw[re]at this
  simp only at this
  omega
 ·rcases List.mem_append.1 hi with hi|hi
  ·have:=h4 i hi;exact⟨this.1,by omega⟩
  ·rw[List.mem_singleton.1 hi];exact⟨rfl,Jw⟩
theorem Ge.add {g:Rows} {o:Id} {L:List (List Nat)} {nx k:Nat} {La:List Nat} (h:Ge g o L nx) (hk:L[k]? =some La) (j:Nat):∃rows id,g o=some ⟨true,1,rows⟩/\rows.length=L.length/\rows[k]? =some [.own id 0 La.length]/\g id=some ⟨true,1,La.map eN⟩/\id.site=320026008/\id.bW<nx/\∀(g':Rows) (v' vV:Nat),nx<=v'->v'<vV->g' o=some ⟨true,1,rows.set k [.own ⟨320026008,v'⟩ 0 (La.length+1)]⟩->g' ⟨320026008,v'⟩=some ⟨true,1,La.map eN++[[.int .i64 (j:Int)]]⟩->(∀i:Id,i.site=320026008->i.bW<nx->(i=id)=False->g' i=g i)->Ge g' o (L.set k (La++[j])) vV:=by
 obtain⟨rows,ids,h1,h2,h3,h4,h5,h6⟩:=h
 have mC:k<L.length:=(List.getElem?_eq_some_iff.1 hk).1
 have Uw:=k7 hk mC
 obtain⟨cs,ic,dx,Qm,Rw,w6⟩:=h2.Si Mo h3 k mC
 rw[Uw]at Qm
 obtain⟨id,rfl,q1,rfl⟩:=Qm
 have hid:=h4 id (Rw id (by simp))
 refine⟨rows,id,h1,h2.len,dx,q1,hid.1,hid.2,fun g' v' vV hv uA r1 r2 r3=>?_⟩
 obtain⟨Eg,s1,s2,s3⟩:=w6 g' [.own ⟨320026008,v'⟩ 0 (La.length+1)] (La++[j]) [⟨320026008,v'⟩] ⟨_,by simp,by rw[r2];simp[eN],rfl⟩ (fun i hi Tn=>r3 i (h4 i hi).1 (h4 i hi).2 (by
  simp only[eq_iff_iff,iff_false];rintro rfl;exact Tn (by simp))) (by simp) fun i hi hc=>by
   rw[List.mem_singleton.1 hi]at hc
   have:=(h4 _ hc).2
   simp only at this
   omega
 refine⟨_,Eg,r1,s1,s2,fun i hi=>?_,h5,by omega⟩
 rcases s3 i hi with h|h
 ·rw[List.mem_singleton.1 h];exact⟨rfl,uA⟩
 ·have:=h4 i h;exact⟨this.1,by omega⟩
def mu (G:Nat->Id) (n k:Nat):List (List AV):=(List.range n).map fun i=>[if i<k then .ptr (G i) 0 0 else .gY]
theorem ni (G:Nat->Id) (n k:Nat):(mu G n k).length=n:=by simp[mu]
theorem HE (G:Nat->Id) (n:Nat):List.replicate n [AV.gY]=mu G n 0:=by
 refine List.ext_getElem? fun i=>?_
 by_cases h:i<n
 ·rw[List.getElem?_replicate,if_pos h];simp[mu,h]
 ·rw[List.getElem?_eq_none (by simp;omega),List.getElem?_eq_none (by rw[ni];omega)]
theorem xM {G:Nat->Id} {n i:Nat} (h:i<n):(mu G n n)[i]? =some [.ptr (G i) 0 0]:=by simp[mu,h]
theorem KA {G:Nat->Id} {n k:Nat} (h:k<n):(mu G n k).set k [.ptr (G k) 0 0]=mu G n (k+1):=by
 refine List.ext_getElem? fun i=>?_
 rw[List.getElem?_set,ni]
 by_cases hi:k=i
 ·subst hi;rw[if_pos rfl,if_pos h];simp[mu,h]
 ·rw[if_neg hi]
  by_cases fB:i<n
  ·simp only[mu,List.getElem?_map,List.getElem?_range fB,Option.map_some]
   by_cases y8:i<k
   ·rw[if_pos y8,if_pos (by omega)]
   ·rw[if_neg y8,if_neg (by omega)]
  ·rw[List.getElem?_eq_none (by rw[ni];omega),List.getElem?_eq_none (by rw[ni];omega)]
end Go.Proofs.YtgoljkjaameagaaGreat.V

namespace Go.Proofs.YtgoljkjaameagaaGreat.V
open Go.RowKit
attribute [local irreducible] dL wpOps gC Call
attribute [local go_sem] aO fM eS ga fZ cU upd cD K.av cR AV.cells AV.cell rowOf rowsOf part ld rowAt bt cw dG ei iu bK dm eB fY e6 dt ep di dh dV dW bU bd cZ bQ db da ek er eo cY ck dj ej bP aQ dd cJ iq br cN bV aZ dr bc dH AV.undef bF bJ dX eh dR dO cK eA eC cI ev eu dc de List.getD_cons_zero List.getD_cons_succ List.getD_nil List.all_cons List.all_nil Bool.and_true Bool.true_and Bool.and_self Bool.not_true Bool.not_false Option.map_some Option.map_none Option.bind_some Option.bind_none List.length_cons List.length_nil List.take_succ_cons List.take_zero List.take_nil List.drop_succ_cons List.drop_zero List.drop_nil List.head?_cons List.map_cons List.map_nil List.getElem?_cons_zero List.getElem?_cons_succ List.cons_append List.nil_append List.append_nil List.length_map List.set_cons_zero List.set_cons_succ Nat.reduceMul eq_self Int.toNat_natCast Int.natCast_nonneg and_self true_and and_true decide_true decide_false Bool.false_eq_true Nat.zero_add Nat.add_zero List.contains_cons List.contains_nil Bool.or_false Bool.false_or beq_self_eq_true Nat.reduceBEq ne_eq not_true_eq_false not_false_eq_true Id.mk.injEq false_and and_false Nat.reduceLT Int.reduceLE Int.reduceLT Int.reduceToNat Int.reduceNeg Int.reduceAdd Nat.le_refl List.length_append beq_true beq_false Bool.not_eq_eq_eq_not or_false false_or dP ai aq aI bh bE cz aY bl aV bf cW bH
theorem ig {o:Id} {a:Nat} (h:o.site=a) {b v:Nat} (re:(a==b)=false):(o=⟨b,v⟩)=False/\((⟨b,v⟩:Id)=o)=False:=by
 have h1:=AP h (v:=v) re
 refine⟨h1,?_⟩
 simp only[eq_iff_iff,iff_false]at h1 ⊢
 exact fun h=>h1 h.symm
theorem wT (cnt:Nat) (yn:1<=cnt) (hn:cnt<=1048576) (bs:List PB) (hb:∀b∈bs,b.a<cnt/\b.b<cnt) (qC:bs.length<=1048576):aj Tryz.prog 320 [.int .i64 cnt,.sl (bs.map az)] (.sl ((fD cnt (eE bs)).map Bj)):=by
 intro n0
 refine H9 Oa rfl fun hl=>?_
 try simp only[q]
 clear hl
 have jP:(0:Int)<=(cnt:Int):=by omega
 have qD:(cnt:Int)<=((16777216:Nat):Int):=by omega
 obtain⟨G,hG⟩:∃G:Nat->Id,G=fun k=>⟨320005004,n0+3+4*k+2⟩:=⟨_,rfl⟩
 have SQ:∀k,(G k).site=320005004:=fun k=>by rw[hG]
 have Uo:∀k,(G k).bW=n0+3+4*k+2:=fun k=>by rw[hG]
 have Um:∀i j,i≠j->(G i=G j)=False:=fun i j h=>by
  simp only[eq_iff_iff,iff_false]
  intro he
  have h1:=Uo i
  rw[he,Uo j]at h1
  omega
 have LM:∀i s v,(320005004==s)=false->(G i=⟨s,v⟩)=False:=fun i s v h=>AP (SQ i) h
 have hz:=HE G cnt
 (try((repeat(revert hN;revert N;apply Pn.out));refine wk (tw @jP (tw @qD (tw @Int.le_refl @hz))) ?_;(repeat(refine Pn.mk ?_;intro N hN))))
 refine aW (fun n env st=>∃k:Nat,n=(cnt)-k/\k<=(cnt)/\env 21=.int .i64 (k:Int)/\st.get ⟨320001001,n0+1⟩=some ⟨true,1,mu G cnt k⟩/\(st.next=n0+3+4*k/\∀j:Nat,j<k->st.get (G j)=some ⟨true,2,[[.gY,.int .i64 (j:Int)]]⟩)) (cnt) ⟨0,by omega,by omega,sl @hz,sl @hz,⟨rfl,fun j hj=>by omega⟩⟩ ?_
 rintro n_a env_a st_a ⟨k,rfl,ale,a21,ag0,me⟩ dJ
 have a0:=dJ 0 (by kernel_rfl);have a1:=dJ 1 (by kernel_rfl);have a5:=dJ 5 (by kernel_rfl);have N0:=dJ 19 (by kernel_rfl);have a20:=dJ 20 (by kernel_rfl)
 simp only[go_sem, ↓reduceIte,Nat.reduceEqDiff,Nat.reduceAdd,Nat.reduceSub,Nat.reduceLeDiff,reduceCtorEq,hz]at a0 a1 a5 N0 a20
 clear dJ
 obtain⟨me,mv⟩:=me
 by_cases hk:(k:Int)<(cnt:Int)
 ·have cG:∀{e:Env} {gg:Rows} {nx:Nat},(e 21=.int .i64 (IntKind.i64.wrap ((k:Int)+1)))->(gg ⟨320001001,n0+1⟩=some ⟨true,1,mu G cnt (k+1)⟩)->(nx=n0+3+4*(k+1)/\∀j:Nat,j<(k+1)->gg (G j)=some ⟨true,2,[[.gY,.int .i64 (j:Int)]]⟩)->∃m0,m0<(cnt)-k/\∃k:Nat,m0=(cnt)-k/\k<=(cnt)/\e 21=.int .i64 (k:Int)/\gg ⟨320001001,n0+1⟩=some ⟨true,1,mu G cnt k⟩/\(nx=n0+3+4*k/\∀j:Nat,j<k->gg (G j)=some ⟨true,2,[[.gY,.int .i64 (j:Int)]]⟩):=fun x1 x2 x3=>⟨_,by omega,k+1,rfl,by omega,(by rw[x1,aB (by omega)]),x2,x3⟩
  have fE:k<cnt:=by omega
  have tl:=ni G cnt k
  have eF:=KA (G:=G) fE
  have eT:(mu G cnt k)[k]? =some [.gY]:=by simp[mu,fE]
  have SO:(⟨320005004,st_a.next+1+1⟩:Id)=G k:=by rw[hG,me]
  have hGf:∀j,j<k->(G j=G k)=False:=fun j hj=>Um j k (by omega)
  have Ae:∀j,(G j=(⟨320001001,n0+1⟩:Id))=False:=fun j=>LM j _ _ (by decide)
  have DW:∀j,((⟨320001001,n0+1⟩:Id)=G j)=False:=fun j=>by
   have:=Ae j
   simp only[eq_iff_iff,iff_false]at this ⊢
   exact fun h=>this h.symm
  (try((repeat(revert hN;revert N;apply Pn.out));refine wk (tw @a21 (tw @ag0 (tw @a0 (tw @a1 (tw @a5 (tw @N0 (tw @a20 (tw @hk (tw @tl (tw @SO (tw @Ae (tw @DW (tw @eF @eT))))))))))))) ?_;(repeat(refine Pn.mk ?_;intro N hN))))
  refine cG ?_ ?_ (by
   refine⟨by(try dsimp only)<;>omega,fun j hj=>?_⟩
   by_cases y9:j=k
   ·subst y9;simp only[go_sem, ↓reduceIte,Nat.reduceEqDiff,Nat.reduceAdd,Nat.reduceSub,Nat.reduceLeDiff,reduceCtorEq,SO,Ae,DW]
   ·have hold:=mv j (by omega)
    have ik:=hGf j (by omega)
    simp only[go_sem, ↓reduceIte,Nat.reduceEqDiff,Nat.reduceAdd,Nat.reduceSub,Nat.reduceLeDiff,reduceCtorEq,SO,Ae,DW,ik,hold])
  all_goals simp only[go_sem, ↓reduceIte,Nat.reduceEqDiff,Nat.reduceAdd,Nat.reduceSub,Nat.reduceLeDiff,reduceCtorEq,a21,ag0,a0,a1,a5,N0,a20,SO,Ae,DW,eF]
 have mC:cnt=k:=by omega
 subst mC
 (try((repeat(revert hN;revert N;apply Pn.out));refine wk (tw @a21 (tw @ag0 (tw @a0 (tw @a1 (tw @a5 (tw @N0 (tw @a20 @hk))))))) ?_;(repeat(refine Pn.mk ?_;intro N hN))))
 refine aW (fun n env st=>∃i:Nat,n=(bs.length)-i/\i<=(bs.length)/\env 33=.int .i64 (i:Int)/\st.get ⟨320001001,n0+1⟩=some ⟨true,1,mu G cnt cnt⟩/\(n0+3+4*cnt<=st.next)/\(∃px,nT cnt px (eE (bs.take i))/\uQ st.get G cnt px)) (bs.length) ⟨0,by omega,by omega,sl (tw @a21 (tw @ag0 (tw @a0 (tw @a1 (tw @a5 (tw @N0 @a20)))))),sl (tw @a21 (tw @ag0 (tw @a0 (tw @a1 (tw @a5 (tw @N0 @a20)))))),(by(try dsimp only);omega),⟨fun _=>none,nT.start cnt,mv⟩⟩ ?_
 rintro n_b env_b st_b ⟨i,rfl,ble,uR,bg0,bI0,bI1⟩ gu
 have b0:=gu 0 (by kernel_rfl);have b1:=gu 1 (by kernel_rfl);have b5:=gu 5 (by kernel_rfl);have yN:=gu 31 (by kernel_rfl);have uj:=gu 32 (by kernel_rfl)
 simp only[go_sem, ↓reduceIte,Nat.reduceEqDiff,Nat.reduceAdd,Nat.reduceSub,Nat.reduceLeDiff,reduceCtorEq,a21,ag0,a0,a1,a5,N0,a20]at b0 b1 b5 yN uj
 clear gu
 obtain⟨px,Lg,SP⟩:=bI1
 have tl:=ni G cnt cnt
 have Q5:∀j v,(G j=(⟨320009002,v⟩:Id))=False:=fun j v=>LM j _ v (by decide)
 have Ae:∀j v,(G j=(⟨320001001,v⟩:Id))=False:=fun j v=>LM j _ v (by decide)
 have DW:∀j v,((⟨320001001,v⟩:Id)=G j)=False:=fun j v=>by
  have:=Ae j v
  simp only[eq_iff_iff,iff_false]at this ⊢
  exact fun h=>this h.symm
 have hGn:∀j,j<cnt->(G j).bW<st_b.next:=fun j hj=>by rw[Uo];omega
 by_cases hi:(i:Int)<(bs.length:Int)
 ·have gp:∀{e:Env} {gg:Rows} {nx:Nat},(e 33=.int .i64 (IntKind.i64.wrap ((i:Int)+1)))->(gg ⟨320001001,n0+1⟩=some ⟨true,1,mu G cnt cnt⟩)->(n0+3+4*cnt<=nx)->(∃px,nT cnt px (eE (bs.take (i+1)))/\uQ gg G cnt px)->∃m0,m0<(bs.length)-i/\∃i:Nat,m0=(bs.length)-i/\i<=(bs.length)/\e 33=.int .i64 (i:Int)/\gg ⟨320001001,n0+1⟩=some ⟨true,1,mu G cnt cnt⟩/\(n0+3+4*cnt<=nx)/\(∃px,nT cnt px (eE (bs.take i))/\uQ gg G cnt px):=fun x1 x2 x3 x4=>⟨_,by omega,i+1,rfl,by omega,(by rw[x1,aB (by omega)]),x2,x3,x4⟩
  have fB:i<bs.length:=by omega
  have kh:(bs.map az)[i]? =some (az bs[i]):=by simp[fB]
  have GK:=hb _ (List.getElem_mem fB)
  have oF:bs.take (i+1)=bs.take i++[bs[i]]:=List.take_succ_eq_append_getElem fB
  have lY:eE (bs.take (i+1))=eR (eE (bs.take i)) bs[i]:=by rw[oF,xd]
  have hL:=uE (bs.take i)
  generalize eE (bs.take i)=L at *
  generalize bs[i]=b at *
  have gA:=xM (G:=G) GK.1
  have gB:=xM (G:=G) GK.2
  have gP:(b.a:Int)<(cnt:Int):=by omega
  have fU:(b.b:Int)<(cnt:Int):=by omega
  (try((repeat(revert hN;revert N;apply Pn.out));refine wk (tw @uR (tw @bg0 (tw @b0 (tw @b1 (tw @b5 (tw @yN (tw @uj (tw @hi (tw @kh (tw @az.eq_1 (tw @gA (tw @gB (tw @gP (tw @fU @tl)))))))))))))) ?_;(repeat(refine Pn.mk ?_;intro N hN))))
  refine KT (fun e s=>e 0=.int .i64 cnt/\e 1=.sl (bs.map az)/\e 5=.own ⟨320001001,n0+1⟩ 0 cnt/\e 31=.sl (bs.map az)/\e 32=.int .i64 bs.length/\e 33=.int .i64 i/\e 9=.ptr (G (L b.a)) 0 0/\e 10=.ptr (G (L b.b)) 0 0/\(∀j:Id,j.bW<st_b.next->s.get j=st_b.get j)/\st_b.next<=s.next) ?_ ?_
  ·rintro e1 s1 ⟨m0,m1,m5,m31,m32,m33,m9,m10,mf,mn⟩
   refine hN _ _ ?_
   clear hN N
   have mG:uQ s1.get G cnt px:=SP.frame fun k hk=>mf _ (hGn k hk)
   have mt:=(mf ⟨320001001,n0+1⟩ (by(try dsimp only);omega)).trans bg0
   have U5:L b.a<cnt:=Nat.lt_of_le_of_lt (hL.le _) GK.1
   have Rz:L b.b<cnt:=Nat.lt_of_le_of_lt (hL.le _) GK.2
   have ra:=mG _ U5
   have rb:=mG _ Rz
   rw[lU (Lg.root hL U5 (hL.idem _))]at ra
   rw[lU (Lg.root hL Rz (hL.idem _))]at rb
   have put:∀(g':Rows) (lo hi:Nat),hi<cnt->g' (G hi)=some ⟨true,2,[[.ptr (G lo) 0 0,.int .i64 (hi:Int)]]⟩->(∀k,k≠hi->k<cnt->g' (G k)=s1.get (G k))->uQ g' G cnt (fun k=>if k=hi then some lo else px k):=fun g' lo hi _ h1 h2 k hk=>by
    by_cases Le:k=hi
    ·subst Le;rw[h1,uy (j:=lo) (if_pos rfl)]
    ·rw[h2 k Le hk,mG k hk]
     unfold tx
     simp only[if_neg Le]
   rcases Nat.lt_trichotomy (L b.a) (L b.b)with dY|heq|dY
   ·have OS:(L b.a:Int)<(L b.b:Int):=by omega
    have hj:=Lg.join hL b (by omega)
    rw[Nat.max_eq_right (by omega),Nat.min_eq_left (by omega),<-lY]at hj
    (try((repeat(revert hN;revert N;apply Pn.out));refine wk (tw @m0 (tw @m1 (tw @m5 (tw @m31 (tw @m32 (tw @m33 (tw @m9 (tw @m10 (tw @ra (tw @rb @OS)))))))))) ?_;(repeat(refine Pn.mk ?_;intro N hN))))
    refine gp ?_ ?_ (by(try dsimp only);omega) (⟨_,hj,put _ _ _ Rz (sd @Nat.zero_add) (fun k hk _=>by
     have ik:=Um k _ hk
     simp only[go_sem, ↓reduceIte,Nat.reduceEqDiff,Nat.reduceAdd,Nat.reduceSub,Nat.reduceLeDiff,reduceCtorEq,ik])⟩)
    all_goals simp only[go_sem, ↓reduceIte,Nat.reduceEqDiff,Nat.reduceAdd,Nat.reduceSub,Nat.reduceLeDiff,reduceCtorEq,m0,m1,m5,m31,m32,m33,mt,Ae,DW]
   ·have yn:¬(L b.a:Int)<(L b.b:Int):=by omega
    have LY:¬(L b.b:Int)<(L b.a:Int):=by omega
    have L8:=As heq
    rw[L8]at lY
    (try((repeat(revert hN;revert N;apply Pn.out));refine wk (tw @m0 (tw @m1 (tw @m5 (tw @m31 (tw @m32 (tw @m33 (tw @m9 (tw @m10 (tw @ra (tw @rb (tw @yn @LY))))))))))) ?_;(repeat(refine Pn.mk ?_;intro N hN))))
    refine gp ?_ ?_ (by(try dsimp only);omega) (⟨_,lY▸Lg,mG.frame fun k hk=>rfl⟩)
    all_goals simp only[go_sem, ↓reduceIte,Nat.reduceEqDiff,Nat.reduceAdd,Nat.reduceSub,Nat.reduceLeDiff,reduceCtorEq,m0,m1,m5,m31,m32,m33,mt]
   ·have OS:(L b.b:Int)<(L b.a:Int):=by omega
    have yn:¬(L b.a:Int)<(L b.b:Int):=by omega
    have hj:=Lg.join hL b (by omega)
    rw[Nat.max_eq_left (by omega),Nat.min_eq_right (by omega),<-lY]at hj
    (try((repeat(revert hN;revert N;apply Pn.out));refine wk (tw @m0 (tw @m1 (tw @m5 (tw @m31 (tw @m32 (tw @m33 (tw @m9 (tw @m10 (tw @ra (tw @rb (tw @OS @yn))))))))))) ?_;(repeat(refine Pn.mk ?_;intro N hN))))
    refine gp ?_ ?_ (by(try dsimp only);omega) (⟨_,hj,put _ _ _ U5 (sd @Nat.zero_add) (fun k hk _=>by
     have ik:=Um k _ hk
     simp only[go_sem, ↓reduceIte,Nat.reduceEqDiff,Nat.reduceAdd,Nat.reduceSub,Nat.reduceLeDiff,reduceCtorEq,ik])⟩)
    all_goals simp only[go_sem, ↓reduceIte,Nat.reduceEqDiff,Nat.reduceAdd,Nat.reduceSub,Nat.reduceLeDiff,reduceCtorEq,m0,m1,m5,m31,m32,m33,mt,Ae,DW]
  ·intro N hN
   refine fh ?_ ?_<;>(try((repeat(revert hN;revert N;apply Pn.out));refine wk (tw @uR (tw @bg0 (tw @b0 (tw @b1 (tw @b5 (tw @yN (tw @uj (tw @hi (tw @kh (tw @az.eq_1 (tw @gA (tw @gB (tw @gP (tw @fU @tl)))))))))))))) ?_;(repeat(refine Pn.mk ?_;intro N hN))))<;>(try refine fh ?_ ?_)<;>(try((repeat(revert hN;revert N;apply Pn.out));refine wk (tw @uR (tw @bg0 (tw @b0 (tw @b1 (tw @b5 (tw @yN (tw @uj (tw @hi (tw @kh (tw @az.eq_1 (tw @gA (tw @gB (tw @gP (tw @fU @tl)))))))))))))) ?_;(repeat(refine Pn.mk ?_;intro N hN))))<;>(try refine fh ?_ ?_)<;>(try((repeat(revert hN;revert N;apply Pn.out));refine wk (tw @uR (tw @bg0 (tw @b0 (tw @b1 (tw @b5 (tw @yN (tw @uj (tw @hi (tw @kh (tw @az.eq_1 (tw @gA (tw @gB (tw @gP (tw @fU @tl)))))))))))))) ?_;(repeat(refine Pn.mk ?_;intro N hN))))
   all_goals
    refine .inr (aJ _ _ _ _ _ (fun r σ1 hq=>?_) (z7 G cnt px L Lg b.a GK.1 _ (SP.frame fun k hk=>sd @Q5)))
    obtain⟨g1,x1⟩:=σ1
    obtain⟨rfl,Bm,GQ⟩:=hq
    (try dsimp only at Bm GQ)
    subst Bm
    refine hN _ _ ?_
    clear hN N
    (try((repeat(revert hN;revert N;apply Pn.out));refine wk (tw @uR (tw @bg0 (tw @b0 (tw @b1 (tw @b5 (tw @yN (tw @uj (tw @hi (tw @kh (tw @az.eq_1 (tw @gA (tw @gB (tw @gP (tw @fU @tl)))))))))))))) ?_;(repeat(refine Pn.mk ?_;intro N hN))))
    refine .inr (aJ _ _ _ _ _ (fun r σ1 hq=>?_) (z7 G cnt px L Lg b.b GK.2 _ (SP.frame fun k hk=>sd @Q5)))
    obtain⟨g1,x2⟩:=σ1
    obtain⟨rfl,Bm,nA⟩:=hq
    (try dsimp only at Bm nA)
    subst Bm
    refine hN _ _ ?_
    clear hN N
    (try((repeat(revert hN;revert N;apply Pn.out));refine wk (tw @uR (tw @bg0 (tw @b0 (tw @b1 (tw @b5 (tw @yN (tw @uj (tw @hi (tw @kh (tw @az.eq_1 (tw @gA (tw @gB (tw @gP (tw @fU @tl)))))))))))))) ?_;(repeat(refine Pn.mk ?_;intro N hN))))
    exact⟨sd (tw @uR (tw @bg0 (tw @b0 (tw @b1 (tw @b5 (tw @yN @uj)))))),sd (tw @uR (tw @bg0 (tw @b0 (tw @b1 (tw @b5 (tw @yN @uj)))))),sd (tw @uR (tw @bg0 (tw @b0 (tw @b1 (tw @b5 (tw @yN @uj)))))),sd (tw @uR (tw @bg0 (tw @b0 (tw @b1 (tw @b5 (tw @yN @uj)))))),sd (tw @uR (tw @bg0 (tw @b0 (tw @b1 (tw @b5 (tw @yN @uj)))))),sd (tw @uR (tw @bg0 (tw @b0 (tw @b1 (tw @b5 (tw @yN @uj)))))),sd (tw @uR (tw @bg0 (tw @b0 (tw @b1 (tw @b5 (tw @yN @uj)))))),sd (tw @uR (tw @bg0 (tw @b0 (tw @b1 (tw @b5 (tw @yN @uj)))))),fun j hj=>by
     have hv:=dv hj
     simp only[go_sem, ↓reduceIte,Nat.reduceEqDiff,Nat.reduceAdd,Nat.reduceSub,Nat.reduceLeDiff,reduceCtorEq,hv],by(try dsimp only);omega⟩
 have lV:i=bs.length:=by omega
 subst lV
 rw[List.take_length]at Lg
 have hL:=uE bs
 generalize eE bs=L at *
 (try((repeat(revert hN;revert N;apply Pn.out));refine wk (tw @uR (tw @bg0 (tw @b0 (tw @b1 (tw @b5 (tw @yN (tw @uj (tw @hi @tl)))))))) ?_;(repeat(refine Pn.mk ?_;intro N hN))))
 have l0:lg 0 L=[]:=rfl
 have oS:(none:Option Nat).isSome=false:=rfl
 have oT:∀a:Nat,(some a).isSome=true:=fun _=>rfl
 refine aW (fun n env st=>∃x:Nat,n=(cnt)-x/\x<=(cnt)/\env 81=.int .i64 (x:Int)/\st.get ⟨320001001,n0+1⟩=some ⟨true,1,mu G cnt cnt⟩/\st.get ⟨320017000,st_b.next+1+1⟩=some ⟨true,mI.qd,lg x L⟩/\(st_b.next+3<=st.next/\uQ st.get G cnt px)/\((x=0/\env 11=.cC)∨∃o:Id,env 11=.own o 0 (leads x L).length/\Ge st.get o (jT x L) st.next)) (cnt) ⟨0,by omega,by omega,sl (tw @uR (tw @bg0 (tw @b0 (tw @b1 (tw @b5 (tw @yN (tw @uj @l0))))))),sl (tw @uR (tw @bg0 (tw @b0 (tw @b1 (tw @b5 (tw @yN (tw @uj @l0))))))),sl (tw @uR (tw @bg0 (tw @b0 (tw @b1 (tw @b5 (tw @yN (tw @uj @l0))))))),⟨by(try dsimp only);omega,SP.frame fun k hk=>by(have ik:=LM k 320017000 (st_b.next+1+1) (by decide));simp only[go_sem, ↓reduceIte,Nat.reduceEqDiff,Nat.reduceAdd,Nat.reduceSub,Nat.reduceLeDiff,reduceCtorEq,ik]⟩,.inl ⟨rfl,sd @Nat.zero_add⟩⟩ ?_
 rintro n_c env_c st_c ⟨x,rfl,cle,c81,cg0,cg1,cI0,cI1⟩ cfr
 have zU:=cfr 12 (by kernel_rfl);have Lu:=cfr 79 (by kernel_rfl);have Lv:=cfr 80 (by kernel_rfl)
 simp only[go_sem, ↓reduceIte,Nat.reduceEqDiff,Nat.reduceAdd,Nat.reduceSub,Nat.reduceLeDiff,reduceCtorEq,uR,bg0,b0,b1,b5,yN,uj,l0]at zU Lu Lv
 clear cfr
 obtain⟨rh,QS⟩:=cI0
 have OD:∀j v,(G j=(⟨320017000,v⟩:Id))=False:=fun j v=>LM j _ v (by decide)
 have Oz:∀j v,(G j=(⟨320025002,v⟩:Id))=False:=fun j v=>LM j _ v (by decide)
 have OB:∀j v,(G j=(⟨320025001,v⟩:Id))=False:=fun j v=>LM j _ v (by decide)
 have OC:∀j v,(G j=(⟨320026007,v⟩:Id))=False:=fun j v=>LM j _ v (by decide)
 have OA:∀j v,(G j=(⟨320026008,v⟩:Id))=False:=fun j v=>LM j _ v (by decide)
 by_cases hx:(x:Int)<(cnt:Int)
 ·have iw:∀{e:Env} {gg:Rows} {nx:Nat},(e 81=.int .i64 (IntKind.i64.wrap ((x:Int)+1)))->(gg ⟨320001001,n0+1⟩=some ⟨true,1,mu G cnt cnt⟩)->(gg ⟨320017000,st_b.next+1+1⟩=some ⟨true,mI.qd,lg (x+1) L⟩)->(st_b.next+3<=nx/\uQ gg G cnt px)->(((x+1)=0/\e 11=.cC)∨∃o:Id,e 11=.own o 0 (leads (x+1) L).length/\Ge gg o (jT (x+1) L) nx)->∃m0,m0<(cnt)-x/\∃x:Nat,m0=(cnt)-x/\x<=(cnt)/\e 81=.int .i64 (x:Int)/\gg ⟨320001001,n0+1⟩=some ⟨true,1,mu G cnt cnt⟩/\gg ⟨320017000,st_b.next+1+1⟩=some ⟨true,mI.qd,lg x L⟩/\(st_b.next+3<=nx/\uQ gg G cnt px)/\((x=0/\e 11=.cC)∨∃o:Id,e 11=.own o 0 (leads x L).length/\Ge gg o (jT x L) nx):=fun x1 x2 x3 x4 x5=>⟨_,by omega,x+1,rfl,by omega,(by rw[x1,aB (by omega)]),x2,x3,x4,x5⟩
  have QD:x<cnt:=by omega
  have gX:=xM (G:=G) QD
  have hlx:L x<cnt:=Nat.lt_of_le_of_lt (hL.le _) QD
  have ra:=QS _ hlx
  rw[lU (Lg.root hL hlx (hL.idem _))]at ra
  have lF:=jY x L
  (try((repeat(revert hN;revert N;apply Pn.out));refine wk (tw @c81 (tw @cg0 (tw @cg1 (tw @zU (tw @Lu (tw @Lv (tw @hx (tw @gX @tl)))))))) ?_;(repeat(refine Pn.mk ?_;intro N hN))))
  refine .inr (aJ _ _ _ _ _ (fun r σ1 hq=>?_) (z7 G cnt px L Lg x QD _ (QS.frame fun k hk=>sd @Nat.zero_add)))
  obtain⟨g1,x1⟩:=σ1
  obtain⟨rfl,Bm,GQ⟩:=hq
  (try dsimp only at Bm GQ)
  subst Bm
  refine hN _ _ ?_
  clear hN N
  by_cases hr:L x=x
  ·rw[hr]at ra ⊢
   have mD:=G8 hr
   have Tl:(leads (x+1) L).length=(leads x L).length+1:=by rw[gW,if_pos hr];simp
   have Qx:=Eo hr
   have Tf:=DS hL hr
   rcases cI1 with⟨rfl,ow⟩|⟨o,ow,cS⟩
   ·have Vt:lg 1 L=[[.int .i64 ((0:Nat):Int),.int .i64 ((0:Nat):Int)]]:=Qx
    (try((repeat(revert hN;revert N;apply Pn.out));refine wk (tw @c81 (tw @cg0 (tw @cg1 (tw @zU (tw @Lu (tw @Lv (tw @ow (tw @ra (tw @mD (tw @l0 (tw @oS (tw @oT (tw @Bool.not_false @Bool.not_true))))))))))))) ?_;(repeat(refine Pn.mk ?_;intro N hN))))
    refine iw ?_ ?_ ?_ (by(try dsimp only);exact⟨by omega,QS.frame fun k hk=>sd (tw @OD (tw @Oz (tw @OA (tw @OB @OC))))⟩) (.inr ⟨⟨320025002,x1+1+1+1+1⟩,by simp only[go_sem, ↓reduceIte,Nat.reduceEqDiff,Nat.reduceAdd,Nat.reduceSub,Nat.reduceLeDiff,reduceCtorEq,Tl];rfl,by rw[Tf];exact LK (v':=x1+1+1+1+1+1) (sd @Nat.zero_add) (sd @eN.eq_1) (by(try dsimp only);omega) (by(try dsimp only);omega)⟩)
    all_goals simp only[go_sem, ↓reduceIte,Nat.reduceEqDiff,Nat.reduceAdd,Nat.reduceSub,Nat.reduceLeDiff,reduceCtorEq,c81,cg0,cg1,zU,Lu,Lv,Vt]
   ·obtain⟨rows,si,rO,kE⟩:=cS.new x
    rw[qZ]at rO
    have yq:o.site=320025002:=by obtain⟨_,_,_,_,_,_,h,_⟩:=cS;exact h
    have vO:o.bW<x1:=by obtain⟨_,_,_,_,_,_,_,h⟩:=cS;omega
    have td:=dv vO
    have RH:=ig (o:=o) yq (b:=320017000) (v:=st_b.next+1+1) (by decide)
    have Qr:=ig (o:=o) yq (b:=320001001) (v:=n0+1) (by decide)
    have OE:∀k,(G k=o)=False:=fun k=>by simp only[eq_iff_iff,iff_false];intro h;have h1:=SQ k;rw[h,yq]at h1;cases h1
    have tE:(rows++[[AV.cC]])[(leads x L).length]? =some [.cC]:=by rw[<-rO];simp
    have Dj:∀a:List AV,(rows++[[AV.cC]]).set (leads x L).length a=rows++[a]:=fun a=>by rw[<-rO];simp
    have e1:(leads x L).length+1<=16777216:=by omega
    have e2:((leads x L).length:Int)<(((leads x L).length+1:Nat):Int):=by omega
    (try((repeat(revert hN;revert N;apply Pn.out));refine wk (tw @c81 (tw @cg0 (tw @cg1 (tw @zU (tw @Lu (tw @Lv (tw @ow (tw @ra (tw @mD (tw @si (tw @rO (tw @td (tw @RH (tw @tE (tw @Dj (tw @e1 (tw @e2 (tw @oS (tw @oT (tw @Bool.not_false @Bool.not_true)))))))))))))))))))) ?_;(repeat(refine Pn.mk ?_;intro N hN))))
    refine iw ?_ ?_ ?_ (by(try dsimp only);exact⟨by omega,QS.frame fun k hk=>sd (tw @OD (tw @Oz (tw @OA (tw @OB (tw @OC @OE)))))⟩) (.inr ⟨⟨320025002,x1+1+1+1+1⟩,sd @Tl,by rw[Tf];exact kE _ _ (x1+1+1+1+1+1) _ (by omega) (by(try dsimp only);omega) (by(try dsimp only);omega) (sd @Dj) (sd @eN.eq_1) (fun j hj hv=>by
     have q1:=dv (i:=j) (n:=x1) (by omega)
     have q2:=ig hj (b:=320017000) (v:=st_b.next+1+1) (by decide)
     have q3:(j=o)=False:=by simp only[eq_iff_iff,iff_false];intro h;rw[h,yq]at hj;cases hj
     simp only[go_sem, ↓reduceIte,Nat.reduceEqDiff,Nat.reduceAdd,Nat.reduceSub,Nat.reduceLeDiff,reduceCtorEq,q1,q2,q3])⟩)
    all_goals simp only[go_sem, ↓reduceIte,Nat.reduceEqDiff,Nat.reduceAdd,Nat.reduceSub,Nat.reduceLeDiff,reduceCtorEq,c81,cg0,cg1,zU,Lu,Lv,Qx,td,RH,Qr]
  ·obtain⟨mD,Js,dY⟩:=zo hL hr
   obtain⟨Rt,Tf⟩:=DT hL hr
   have Tl:(leads (x+1) L).length=(leads x L).length:=by rw[gW,if_neg hr];simp
   have L8:=En hr
   rcases cI1 with⟨rfl,ow⟩|⟨o,ow,cS⟩
   ·exact absurd (Nat.le_zero.1 (hL.le 0)) hr
   ·obtain⟨rows,id,si,rO,hrk,hid,Jh,hidv,UI⟩:=cS.add Rt x
    rw[qZ]at rO
    have yq:o.site=320025002:=by obtain⟨_,_,_,_,_,_,h,_⟩:=cS;exact h
    have vO:o.bW<x1:=by obtain⟨_,_,_,_,_,_,_,h⟩:=cS;omega
    have td:=dv vO
    have uA:=dv (i:=id) (n:=x1) (by omega)
    have kh:(cm L x:Int)<((leads x L).length:Int):=by omega
    have RD:=Cz x L (L x)
    have hma:((members x L (L x)).map eN).length=(members x L (L x)).length:=by simp
    have e1:(members x L (L x)).length+1<=16777216:=by omega
    have Qs:(o=id)=False:=by simp only[eq_iff_iff,iff_false];rintro rfl;rw[Jh]at yq;cases yq
    have Qo:(id=o)=False:=by simp only[eq_iff_iff,iff_false];rintro rfl;rw[Jh]at yq;cases yq
    have RH:=ig (o:=o) yq (b:=320017000) (v:=st_b.next+1+1) (by decide)
    have Qr:=ig (o:=o) yq (b:=320001001) (v:=n0+1) (by decide)
    have hiM:=ig (o:=id) Jh (b:=320017000) (v:=st_b.next+1+1) (by decide)
    have hiT:=ig (o:=id) Jh (b:=320001001) (v:=n0+1) (by decide)
    have OE:∀k,(G k=o)=False:=fun k=>by simp only[eq_iff_iff,iff_false];intro h;have h1:=SQ k;rw[h,yq]at h1;cases h1
    have Un:∀k,(G k=id)=False:=fun k=>by simp only[eq_iff_iff,iff_false];intro h;have h1:=SQ k;rw[h,Jh]at h1;cases h1
    (try((repeat(revert hN;revert N;apply Pn.out));refine wk (tw @c81 (tw @cg0 (tw @cg1 (tw @zU (tw @Lu (tw @Lv (tw @ow (tw @ra (tw @mD (tw @Js (tw @si (tw @rO (tw @hrk (tw @hid (tw @td (tw @uA (tw @kh (tw @hma (tw @e1 (tw @Qs (tw @Qo (tw @RH (tw @Qr (tw @hiM (tw @hiT (tw @oS (tw @oT (tw @Bool.not_false @Bool.not_true)))))))))))))))))))))))))))) ?_;(repeat(refine Pn.mk ?_;intro N hN))))
    refine iw ?_ ?_ ?_ (by(try dsimp only);exact⟨by omega,QS.frame fun k hk=>sd (tw @OD (tw @Oz (tw @OA (tw @OB (tw @OC (tw @OE @Un))))))⟩) (.inr ⟨o,sd (tw @Tl @ow),by rw[Tf];exact UI _ (x1+1+1) _ (by omega) (by(try dsimp only);omega) (sd @Nat.zero_add) (sd (tw @td (tw @uA (tw @Qs @Qo)))) (fun j hj hv np=>by
     have q1:=dv (i:=j) (n:=x1) (by omega)
     have q2:=ig hj (b:=320017000) (v:=st_b.next+1+1) (by decide)
     have q3:(j=o)=False:=by simp only[eq_iff_iff,iff_false];intro h;rw[h,yq]at hj;cases hj
     simp only[go_sem, ↓reduceIte,Nat.reduceEqDiff,Nat.reduceAdd,Nat.reduceSub,Nat.reduceLeDiff,reduceCtorEq,q1,q2,q3,np])⟩)
    all_goals simp only[go_sem, ↓reduceIte,Nat.reduceEqDiff,Nat.reduceAdd,Nat.reduceSub,Nat.reduceLeDiff,reduceCtorEq,c81,cg0,cg1,zU,Lu,Lv,L8,td,uA,RH,Qr,hiM,hiT]
 have VB:x=cnt:=by omega
 rcases cI1 with⟨h0,_⟩|⟨o,ow,rows,ids,si,hR,_,_,_,_⟩
 ·omega
 have rO:=hR.len
 rw[qZ]at rO
 (try((repeat(revert hN;revert N;apply Pn.out));refine wk (tw @c81 (tw @cg0 (tw @cg1 (tw @zU (tw @Lu (tw @Lv (tw @hx (tw @ow @si)))))))) ?_;(repeat(refine Pn.mk ?_;intro N hN))))
 refine xD (.inl rfl) (by simp only[go_sem, ↓reduceIte,Nat.reduceEqDiff,Nat.reduceAdd,Nat.reduceSub,Nat.reduceLeDiff,reduceCtorEq];rfl) ?_
 rw[vI si (by omega) (rows':=(fD cnt L).map Bj) (by
  rw[List.drop_zero,List.take_of_length_le (by omega)]
  rw[VB]at hR;exact JQ 3 hR)]
theorem KU (b:PB) (t:Int):aj Tryz.prog 323 [.agg (az b),.dn [.int .i64 t]] (.bool (decide (b.s<t))):=by
 refine aj.body eI rfl fun hl n0=>?_
 clear hl
 (try((repeat(revert hN;revert N;apply Pn.out));refine wk @az.eq_1 ?_;(repeat(refine Pn.mk ?_;intro N hN))))
 exact aU (b:=decide (b.s<t)) (.inl rfl) (sd @Nat.zero_add) rfl
theorem zg (bs:List PB) (t:Int) (hl:bs.length<=1048576):aj Tryz.prog 335 [.sl (bs.map az),.fn 323 [.dn [.int .i64 t]]] (.int .i64 (kC (fun b:PB=>decide (b.s<t)) bs)):=
 uC IH (show mz Tryz.prog 335=some (tH 335 3 true) by kernel_rfl) bs hl 323 _ _ (fun x _=>KU x t) fun g=>by simp only[ai,aq,aV,Option.map_some]
theorem ID (bs:List PB) (hp:0<bs.length) (hl:bs.length<=1048576) (σ:ar):
  Call Tryz.prog 322 [.sl (bs.map az)] σ fun r σ'=>∃o:Id,r=.own o 0 bs.length/\σ'.get o=some ⟨true,3,bs.map az⟩/\σ.next<=o.bW/\o.bW<σ'.next/\∀i:Id,i.bW<σ.next->σ'.get i=σ.get i:=by
 refine eW eI rfl fun hl=>?_
 clear hl
 have hz:=all_map (l:=bs) NQ
 obtain⟨b,r,rfl⟩:∃b r,bs=b::r:=by
  cases bs with
  |nil=>simp at hp
  |cons b r=>exact⟨b,r,rfl⟩
 have lF:(List.map az (b::r)).length=(b::r).length:=by simp
 have e1:r.length<=16777215:=by simp at hl;omega
 rw[List.map_cons]at hz lF ⊢
 (try((repeat(revert hN;revert N;apply Pn.out));refine wk (tw @hz (tw @lF @e1)) ?_;(repeat(refine Pn.mk ?_;intro N hN))))
 refine ft (.inl rfl) (vs:=[.own ⟨322003002,σ.next+1+1⟩ 0 (b::r).length]) (by simp only[fA,iD,go_sem, ↓reduceIte,Nat.reduceEqDiff,Nat.reduceAdd,Nat.reduceSub,Nat.reduceLeDiff,reduceCtorEq,List.length_cons]) ⟨⟨322003002,σ.next+1+1⟩,rfl,sd @Nat.zero_add,by(try dsimp only);omega,by(try dsimp only);omega,fun i hi=>?_⟩
 have hv:=dv hi
 simp only[go_sem, ↓reduceIte,Nat.reduceEqDiff,Nat.reduceAdd,Nat.reduceSub,Nat.reduceLeDiff,reduceCtorEq,hv]
theorem pO {t:Int} {bs:List PB} {j:Nat} (hj:j<bs.length):aM t (bs.take (j+1))=aM t (bs.take j)++if decide (bs[j].s<t)=true then[]else[bs[j]]:=by
 rw[uM t bs j hj]
 congr 1
 by_cases h:bs[j].s<t
 ·rw[if_neg (by omega),if_pos (decide_eq_true h)]
 ·rw[if_pos (by omega),if_neg (by simp only[decide_eq_true_eq];exact h)]
theorem uL {t:Int} {bs:List PB} (h:∀b∈bs,¬b.s<t):aM t bs=bs:=by
 unfold aM
 rw[List.filter_eq_self]
 intro b hb
 have:=h b hb
 exact decide_eq_true (by omega)
structure uP (t:Int) (bs:List PB) (j:Nat) (R:List PB):Prop where
 len:R.length=bs.length
 pre:R.take (aM t (bs.take j)).length=aM t (bs.take j)
 post:∀x,j<=x->R[x]? =bs[x]?
 lt:(aM t (bs.take j)).length<j
theorem uP.start {t:Int} {bs:List PB} {i:Nat} (hi:i<bs.length) (hw:bs[i].s<t) (hp:∀x (h:x<i),¬bs[x].s<t):uP t bs (i+1) bs/\(aM t (bs.take (i+1))).length=i:=by
 have h1:aM t (bs.take i)=bs.take i:=uL fun b hb=>by
  obtain⟨x,hx,rfl⟩:=List.getElem_of_mem hb
  rw[List.length_take]at hx
  rw[List.getElem_take]
  exact hp x (by omega)
 have h2:aM t (bs.take (i+1))=bs.take i:=by rw[pO hi,if_pos (decide_eq_true hw),List.append_nil,h1]
 have h3:(bs.take i).length=i:=by rw[List.length_take];omega
 exact⟨⟨rfl,by rw[h2,h3],fun _ _=>rfl,by rw[h2,h3];omega⟩,by rw[h2,h3]⟩
theorem uP.Sv {t:Int} {bs R:List PB} {j:Nat} (h:uP t bs j R) (hj:j<bs.length) (hw:bs[j].s<t):uP t bs (j+1) R/\(aM t (bs.take (j+1))).length=(aM t (bs.take j)).length:=by
 have h2:aM t (bs.take (j+1))=aM t (bs.take j):=by rw[pO hj,if_pos (decide_eq_true hw),List.append_nil]
 exact⟨⟨h.len,by rw[h2];exact h.pre,fun x hx=>h.post x (by omega),by rw[h2];have:=h.lt;omega⟩,by rw[h2]⟩
theorem uP.rq {t:Int} {bs R:List PB} {j:Nat} (h:uP t bs j R) (hj:j<bs.length) (hw:¬bs[j].s<t):uP t bs (j+1) (R.set (aM t (bs.take j)).length bs[j])/\(aM t (bs.take (j+1))).length=(aM t (bs.take j)).length+1:=by
 have h2:aM t (bs.take (j+1))=aM t (bs.take j)++[bs[j]]:=by rw[pO hj,if_neg (by simp only[decide_eq_true_eq];exact hw)]
 have dY:=h.lt
 have hlen:=h.len
 have vd:=h.pre
 generalize hc:(aM t (bs.take j)).length=c at *
 refine⟨⟨by rw[List.length_set];exact hlen,?_,fun x hx=>?_,by rw[h2,List.length_append,hc];simp;omega⟩,by rw[h2,List.length_append,hc];rfl⟩
 ·rw[h2,List.length_append,hc,List.length_singleton,List.take_succ_eq_append_getElem (by rw[List.length_set];omega),List.getElem_set_self,List.take_set_of_le (Nat.le_refl _),vd]
 ·rw[List.getElem?_set_ne (by omega)];exact h.post x (by omega)
theorem uP.at_ {t:Int} {bs R:List PB} {j:Nat} (h:uP t bs j R) (hj:j<bs.length):(R.map az)[j]? =some (az bs[j]):=by
 rw[List.getElem?_map,h.post j (Nat.le_refl j),List.getElem?_eq_getElem hj];rfl
theorem DK {p:PB->Bool} {bs:List PB} (h:¬0<=kC p bs):∀b∈bs,p b=false:=by
 intro b hb
 unfold kC at h
 split at h
 ·omega
 ·rename_i h1
  rw[List.findIdx_lt_length]at h1
  cases hp:p b
  ·rfl
  ·exact absurd ⟨b,hb,hp⟩ h1
theorem DL {p:PB->Bool} {bs:List PB} (h:0<=kC p bs):∃i,∃hi:i<bs.length,kC p bs=(i:Int)/\p bs[i]=true/\∀x (hx:x<i),p (bs[x]'(by omega))=false:=by
 unfold kC at h ⊢
 split
 ·rename_i h1
  exact⟨bs.findIdx p,h1,rfl,List.findIdx_getElem,fun x hx=>by simpa using List.not_of_lt_findIdx hx⟩
 ·rename_i h1;rw[if_neg h1]at h;omega
theorem Gx (bs:List PB) (t:Int) (hl:bs.length<=1048576) (o T:Id) (σ:ar) (ho:σ.get o=some ⟨true,3,bs.map az⟩) (hT:σ.get T=some ⟨true,1,[[.int .i64 t]]⟩) (vO:o.bW<σ.next) (SY:T.bW<σ.next) (Qr:o≠T):
  Call Tryz.prog 321 [.own o 0 bs.length,.fn 323 [.ptr T 0 0]] σ fun r σ'=>∃rows,r=.own o 0 (aM t bs).length/\σ'.get o=some ⟨true,3,rows⟩/\rows.take (aM t bs).length=(aM t bs).map az/\(aM t bs).length<=rows.length/\σ.next<=σ'.next/\∀i:Id,i.bW<σ.next->i≠o->σ'.get i=σ.get i:=by
 refine eW eI rfl fun nB=>?_
 clear nB
 have GO:=zg bs t hl
 have hzT:∀(g:Rows),g T=some ⟨true,1,[[.int .i64 t]]⟩->V.fz (dP g) 5 (.ptr T 0 0)=some (.dn [.int .i64 t]):=fun g hg=>wP (sz:=1) (rows:=[[.int .i64 t]]) (by simp[dP,hg]) rfl (by simp only[List.drop_zero,ai,aq,aI,Option.map_some])
 have Bo:∀(g:Rows),g T=some ⟨true,1,[[.int .i64 t]]⟩->g o=some ⟨true,3,bs.map az⟩->cV (dP g) 6 [.own o 0 bs.length,.fn 323 [.ptr T 0 0]]=some [.sl (bs.map az),.fn 323 [.dn [.int .i64 t]]]:=fun g h1 h2=>by
  have q1:=gy (g:=dP g) (n:=5) (e:=az) (sz:=3) (len:=bs.length) (l:=bs) (id:=o) (by simp[dP,h2]) rfl fun b=>z8 _ 4 b
  have q2:=hzT g h1
  simp only[ai,aq,q1,cW,List.all_cons,List.all_nil,AV.cell,Bool.and_true,if_true,q2,Option.map_some]
 have lH:∀(g:Rows),g T=some ⟨true,1,[[.int .i64 t]]⟩->∀b:PB,cV (dP g) 6 [.agg (az b),.ptr T 0 0]=some [.agg (az b),.dn [.int .i64 t]]:=fun g h1 b=>by
  have q3:V.fz (dP g) 6 (.ptr T 0 0)=some (.dn [.int .i64 t]):=wP (sz:=1) (rows:=[[.int .i64 t]]) (by simp[dP,h1]) rfl (by simp only[List.drop_zero,ai,aq,aI,Option.map_some])
  simp only[ai,aq,bl,z8,q3,Option.map_some]
 (try((repeat(revert hN;revert N;apply Pn.out));refine wk @Nat.zero_add ?_;(repeat(refine Pn.mk ?_;intro N hN))))
 refine .inl ⟨_,aj.x GO (Bo _ hT ho),?_⟩
 refine hN _ _ ?_
 clear hN N
 by_cases h0:0<=kC (fun b:PB=>decide (b.s<t)) bs
 ·obtain⟨i,hi,HX,hpi,L6⟩:=DL h0
  rw[HX]at *
  have LZ:decide ((i:Int)= -1)=false:=decide_eq_false (by omega)
  have JA:IntKind.i64.wrap ((i:Int)+1)=((i+1:Nat):Int):=aB (by omega)
  obtain⟨dK,Dj⟩:=uP.start (t:=t) hi (by simpa using hpi) (fun x hx=>by simpa using L6 x hx)
  (try((repeat(revert hN;revert N;apply Pn.out));refine wk (tw @LZ @JA) ?_;(repeat(refine Pn.mk ?_;intro N hN))))
  refine aW (fun m env st=>∃(j:Nat) (R:List PB),m=bs.length-j/\env 6=.int .i64 (j:Int)/\env 5=.int .i64 ((aM t (bs.take j)).length:Int)/\st.get o=some ⟨true,3,R.map az⟩/\uP t bs j R/\j<=bs.length/\σ.next<=st.next/\∀x:Id,x.bW<σ.next->(x=o)=False->st.get x=σ.get x) (bs.length-(i+1)) ⟨i+1,bs,rfl,sd @JA,sd @Dj,sd @ho,dK,by omega,by(try dsimp only);omega,fun x _ _=>sd @Nat.zero_add⟩ ?_
  rintro m env_b st_b ⟨j,R,rfl,b6,b5,bg,hD,im,hle,jV⟩ gu
  have b0:=gu 0 (by kernel_rfl)
  have b1:=gu 1 (by kernel_rfl)
  simp only[go_sem, ↓reduceIte,Nat.reduceEqDiff,Nat.reduceAdd,Nat.reduceSub,Nat.reduceLeDiff,reduceCtorEq]at b0 b1
  clear gu
  have bT:=(jV T SY (by simp only[eq_iff_iff,iff_false];exact fun h=>Qr h.symm)).trans hT
  have qt:=dv (i:=o) (n:=st_b.next) (by omega)
  have Vx:=dv (i:=T) (n:=st_b.next) (by omega)
  have hRl:=hD.len
  have UA:(R.map az).length=bs.length:=by rw[List.length_map,hRl]
  have dY:=hD.lt
  by_cases hj:(j:Int)<(bs.length:Int)
  ·have iW:j<bs.length:=by omega
   have HU:=hD.at_ iW
   have Pe:=KU bs[j] t
   have Tz:IntKind.i64.wrap ((j:Int)+1)=((j+1:Nat):Int):=aB (by omega)
   have hD1:=hD.Sv iW
   have hD2:=hD.rq iW
   generalize bs[j]=b at *
   (try((repeat(revert hN;revert N;apply Pn.out));refine wk (tw @b0 (tw @b1 (tw @b5 (tw @b6 (tw @bg (tw @hj (tw @HU (tw @az.eq_1 (tw @qt (tw @Vx @UA)))))))))) ?_;(repeat(refine Pn.mk ?_;intro N hN))))
   refine .inl ⟨_,aj.x Pe (lH _ (sd (tw @Vx @bT)) b),?_⟩
   refine hN _ _ ?_
   clear hN N
   by_cases hw:b.s<t
   ·obtain⟨Uk,Uj⟩:=hD1 hw
    have hd:decide (b.s<t)=true:=decide_eq_true hw
    (try((repeat(revert hN;revert N;apply Pn.out));refine wk (tw @b0 (tw @b1 (tw @b5 (tw @b6 (tw @hd @Tz))))) ?_;(repeat(refine Pn.mk ?_;intro N hN))))
    refine⟨_,?_,j+1,R,rfl,sd @Tz,sd (tw @b5 @Uj),sd (tw @bg @qt),Uk,by omega,by(try dsimp only);omega,fun x hx H4=>?_⟩
    ·omega
    ·have Qz:=dv (i:=x) (n:=st_b.next) (by omega)
     have:=jV x hx H4
     simp only[go_sem, ↓reduceIte,Nat.reduceEqDiff,Nat.reduceAdd,Nat.reduceSub,Nat.reduceLeDiff,reduceCtorEq,Qz,this]
   ·obtain⟨Uk,Uj⟩:=hD2 hw
    have hd:decide (b.s<t)=false:=decide_eq_false hw
    have UK:((aM t (bs.take j)).length:Int)<(bs.length:Int):=by omega
    have hwc:IntKind.i64.wrap (((aM t (bs.take j)).length:Int)+1)=(((aM t (bs.take j)).length+1:Nat):Int):=aB (by omega)
    have eF:(R.map az).set (aM t (bs.take j)).length [.int .i64 (b.a:Int),.int .i64 (b.b:Int),.int .i64 b.s]=(R.set (aM t (bs.take j)).length b).map az:=by rw[List.map_set];rfl
    have Te:∃y,(R.map az)[(aM t (bs.take j)).length]? =some (az y):=⟨R[(aM t (bs.take j)).length]'(by omega),by rw[List.getElem?_map,List.getElem?_eq_getElem (by omega)];rfl⟩
    obtain⟨y,Te⟩:=Te
    rw[az]at Te
    (try((repeat(revert hN;revert N;apply Pn.out));refine wk (tw @b0 (tw @b1 (tw @b5 (tw @b6 (tw @bg (tw @hd (tw @Tz (tw @hwc (tw @UK (tw @eF (tw @Te (tw @qt (tw @Vx @UA))))))))))))) ?_;(repeat(refine Pn.mk ?_;intro N hN))))
    refine⟨_,?_,j+1,_,rfl,sd @Tz,sd (tw @hwc @Uj),sd @eF,Uk,by omega,by(try dsimp only);omega,fun x hx H4=>?_⟩
    ·omega
    ·have Qz:=dv (i:=x) (n:=st_b.next) (by omega)
     have:=jV x hx H4
     simp only[go_sem, ↓reduceIte,Nat.reduceEqDiff,Nat.reduceAdd,Nat.reduceSub,Nat.reduceLeDiff,reduceCtorEq,Qz,this,H4]
  ·have im:j=bs.length:=by omega
   subst im
   have vd:=hD.pre
   rw[List.take_length]at b5 dY vd
   have UK:((aM t bs).length:Int)<=(bs.length:Int):=by omega
   have S7:(aM t bs).length<=bs.length:=by omega
   have rj:(aM t bs).length+(bs.length-(aM t bs).length)=bs.length:=by omega
   have Dj:=nJ t bs
   (try((repeat(revert hN;revert N;apply Pn.out));refine wk (tw @b0 (tw @b1 (tw @b5 (tw @b6 (tw @bg (tw @hj (tw @UA (tw @UK (tw @S7 (tw @rj (tw @Nat.le_refl (tw @Nat.sub_zero (tw @Int.le_refl @qt))))))))))))) ?_;(repeat(refine Pn.mk ?_;intro N hN))))
   refine ft (.inl rfl) (vs:=[.own o 0 (aM t bs).length]) (sd @Nat.zero_add) ⟨_,rfl,by simp only[go_sem, ↓reduceIte,Nat.reduceEqDiff,Nat.reduceAdd,Nat.reduceSub,Nat.reduceLeDiff,reduceCtorEq];rfl,?_,?_,by(try dsimp only);omega,fun x hx H4=>?_⟩
   ·have hm:List.take (aM t bs).length (List.map az R)=(aM t bs).map az:=by rw[<-List.map_take,vd]
    rw[hm,List.append_assoc,List.take_append_of_le_length (by simp),List.take_of_length_le (by simp)]
   ·have hm:List.take (aM t bs).length (List.map az R)=(aM t bs).map az:=by rw[<-List.map_take,vd]
    rw[hm]
    simp only[List.length_append,List.length_map]
    omega
   ·have RW:(x=o)=False:=by simp only[eq_iff_iff,iff_false];exact H4
    have:=jV x hx RW
    simp only[go_sem, ↓reduceIte,Nat.reduceEqDiff,Nat.reduceAdd,Nat.reduceSub,Nat.reduceLeDiff,reduceCtorEq,RW,this]
 ·have hn:=DK h0
  have dK:=uL (t:=t) (bs:=bs) fun b hb=>by simpa using hn b hb
  have hd:decide (kC (fun b:PB=>decide (b.s<t)) bs= -1)=true:=decide_eq_true (by
   unfold kC at h0 ⊢
   split
   ·rename_i h;rw[if_pos h]at h0;omega
   ·rfl)
  (try((repeat(revert hN;revert N;apply Pn.out));refine wk @hd ?_;(repeat(refine Pn.mk ?_;intro N hN))))
  refine ft (.inl rfl) (vs:=[.own o 0 bs.length]) (sd @Nat.zero_add) ⟨bs.map az,by rw[dK];rfl,sd @ho,by rw[dK,List.take_of_length_le (by simp)],by rw[dK];simp,by(try dsimp only);omega,fun x _ _=>rfl⟩
end Go.Proofs.YtgoljkjaameagaaGreat.V

namespace Go.Proofs.YtgoljkjaameagaaGreat.V
open Go.RowKit Go.Shelf
attribute [local go_sem] Oper.semAt_some
structure qn (W:World) (v:Value) (l:List ad):Prop where
 sl:∃A c,v=.slice A l.length c/\(l.length<=c/\c<=maxLen)/\(l=[]∨∃b o,A=some ⟨b,o,none⟩/\∀i,i<l.length->W.cell? ⟨b,o+(i*3+0),none⟩=some (.int .i64 (aL l i).aP.fb)/\W.cell? ⟨b,o+(i*3+1),none⟩=some (.int .i64 (aL l i).aP.eV)/\W.cell? ⟨b,o+(i*3+2),none⟩=some (.int .i64 (aL l i).aT))
structure Ie (K:World->World->Prop) (v:Value) (l:List ad):Prop where
 refl:∀W,K W W
 trans:∀{A B C:World},K A B->K B C->K A C
 of:∀{W W':World},Below W.heap.size W W'->K W W'
 size:∀{W W':World},K W W'->W.heap.size<=W'.heap.size
 typed:∀{W W':World},K W W'->∀(b:Nat) (cells:Array Value) (T:TypeId) (fr:Nat×Nat),W.heap[b]? =some (Obj.cells cells T fr)->T≠179->T≠254->W'.heap[b]? =W.heap[b]?
 pl:∀{W W':World},K W W'->qn W v l->qn W' v l
theorem vp {W:World} {b x:Nat} {v:Value} (h:W.cell? ⟨b,x,none⟩=some v):b<W.heap.size:=by
 rcases Nat.lt_or_ge b W.heap.size with h1|h1
 ·exact h1
 ·simp[World.cell?,Array.getElem?_eq_none h1]at h
theorem qn.below {W W':World} {v:Value} {l:List ad} (h:qn W v l) (k:Below W.heap.size W W'):qn W' v l:=by
 obtain⟨A,c,rfl,hm,hc⟩:=h.sl
 refine⟨A,c,rfl,hm,?_⟩
 rcases hc with h0|⟨b,o,rfl,kI⟩
 ·exact .inl h0
 ·refine .inr ⟨b,o,rfl,fun i hi=>?_⟩
  obtain⟨h1,h2,h3⟩:=kI i hi
  have hb:=vp h1
  exact⟨(k.cell (p:=⟨b,_,none⟩) hb).trans h1,(k.cell (p:=⟨b,_,none⟩) hb).trans h2,(k.cell (p:=⟨b,_,none⟩) hb).trans h3⟩
theorem qn.eP {P:Program} {W:World} {v:Value} {l:List ad} (h:qn W v l):jL P W (fun b=>b<W.heap.size) (.sl (l.map aa)) v:=by
 obtain⟨A,c,rfl,hm,hc⟩:=h.sl
 rcases hc with rfl|⟨b,o,rfl,kI⟩
 ·exact .Bp A c (by simpa using hm.2)
 by_cases Nu:l=[]
 ·subst Nu;exact .Bp _ c (by simpa using hm.2)
 ·have kF:0<l.length:=List.length_pos_iff.2 Nu
  have hb:=vp (kI 0 kF).1
  refine .sl (l.map aa) b o l.length c 3 (fun i j=>if j=0 then .int .i64 (aL l i).aP.fb else if j=1 then .int .i64 (aL l i).aP.eV else .int .i64 (aL l i).aT) (by simp) hm.1 hm.2 hb (fun cs dx=>?_) (fun cs dx a ha=>?_) (fun i j hi hj=>?_) (fun i j cs a hi hj=>?_)
  ·obtain⟨x,_,rfl⟩:=List.mem_map.1 dx;rfl
  ·obtain⟨x,_,rfl⟩:=List.mem_map.1 dx
   simp[aa]at ha
   rcases ha with rfl|rfl|rfl<;>rfl
  ·obtain⟨h1,h2,h3⟩:=kI i hi
   match j,hj with
   |0,_=>exact h1
   |1,_=>exact h2
   |2,_=>exact h3
   |j+3,hj=>omega
  ·have lV:i<l.length:=by have:=(List.getElem?_eq_some_iff.1 hi).1;simpa using this
   rw[fC lV]at hi
   injection hi with hi
   subst hi
   match j,hj with
   |0,hj=>simp[aa]at hj;subst hj;exact .int _ _
   |1,hj=>simp[aa]at hj;subst hj;exact .int _ _
   |2,hj=>simp[aa]at hj;subst hj;exact .int _ _
   |j+3,hj=>simp[aa]at hj
theorem BJ {P:Program} (hm:P.follows .mixedOrders=true) {f:Nat} {args:List AV} {vs:Array Value} {w:World} {r:AV} (h:aj P f args r) (hr:∀g r0,gE g 6 r0=some r->r0=r) (hA:fu P w (fun b=>b<w.heap.size) (fun _=>none) args vs):
  Calls P f vs w fun e w'=>∃D ι u,e=.returned u/\cL P w' D ι r u/\Below w.heap.size w w':=by
 have hs:=gx hm (h 0) w.heap.size (fun b=>b<w.heap.size) (fun _=>none) w vs ⟨Nat.le_refl _,fun _ h=>h,fun id r h=>(by cases h),fun id kb r r' B B' h=>(by cases h)⟩ (fun id h=>absurd rfl h) hA
 refine hs.mono ?_
 rintro e w' ⟨r0,g',n',D',ι',u,rfl,⟨r',hz,rfl⟩,dK,hsim,_,_,gQ⟩
 have:=hr _ _ hz
 subst this
 exact⟨D',ι',u,rfl,gQ,dK.below⟩
theorem pk {g:Rows} {n:Nat} {a:AV} {k:IntKind} {m:Int} (h:gE g (n+1) a=some (.int k m)):a=.int k m:=by
 cases a<;>rw[gE]at h<;>simp_all
 all_goals (repeat' (split at h))<;>simp_all
theorem DR {g:Rows} {a:AV} {x y:Int} (h:gE g 6 a=some (.agg [.int .i64 x,.int .i64 y])):a=.agg [.int .i64 x,.int .i64 y]:=by
 cases a with
 |agg cs=>
  rw[LH]at h
  simp only[Option.map_eq_some_iff,AV.agg.injEq,exists_eq_right]at h
  match cs,h with
  |[],h=>rw[cF]at h;simp at h
  |[a],h=>
   rw[bD,cF]at h
   cases ha:gE g 5 a<;>simp[ha]at h
  |[a,b],h=>
   rw[bD,bD,cF]at h
   cases ha:gE g 5 a<;>cases hb:gE g 5 b<;>simp[ha,hb]at h
   obtain⟨rfl,rfl⟩:=h
   rw[pk ha,pk hb]
  |a::b::c::r,h=>
   rw[bD,bD,bD]at h
   cases ha:gE g 5 a<;>cases hb:gE g 5 b<;>cases hc:gE g 5 c<;>cases hd:ef g 5 r<;>simp[ha,hb,hc,hd]at h
 |_=>rw[gE]at h<;>simp_all<;>(repeat' (split at h))<;>simp_all
theorem ET (W:World) (p:aH) (d:Int) (hd:jf d 0 3=true) (hx:iB p.fb) (hy:iB p.eV):Calls Tryz.prog 228 #[.agg #[.int .i64 p.fb,.int .i64 p.eV],.int .i64 d] W fun e W'=>e=.returned (.agg #[.int .i64 (dB p d).fb,.int .i64 (dB p d).eV])/\Below W.heap.size W W':=by
 refine(BJ mixed (EV p d hd hx hy) (fun g r0 h=>DR h) ?_:Calls _ _ _ _ _).mono ?_
 ·exact lp (vs:= #[.int .i64 d]) (.agg _ _ (fun j=>if j=0 then .int .i64 p.fb else .int .i64 p.eV) rfl (fun a ha=>by simp[ah]at ha;rcases ha with rfl|rfl<;>rfl) (fun j hj=>by match j,hj with|0,_=>rfl|1,_=>rfl|j+2,hj=>simp[ah]at hj;omega) (fun j a ha=>by match j,ha with|0,ha=>simp[ah]at ha;subst ha;exact .int _ _|1,ha=>simp[ah]at ha;subst ha;exact .int _ _|j+2,ha=>simp[ah]at ha)) (lp (vs:= #[]) (.int _ _) xt)
 ·rintro e W' ⟨D,ι,u,rfl,hr,hB⟩
  refine⟨?_,hB⟩
  obtain⟨vs,f,rfl,fw,_,h1,h2⟩:=ja hr
  have v0:=h1 0 (by simp[ah])
  have v1:=h1 1 (by simp[ah])
  rw[du (h2 0 _ rfl)]at v0
  rw[du (h2 1 _ rfl)]at v1
  obtain⟨vl⟩:=vs
  match vl,fw with
  |[a,b],_=>
   simp at v0 v1
   rw[v0,v1]
theorem yC (W:World) (l:List ad) (v:Value) (hP:qn W v l) (p:aH) (hR:oj l) (GH:l.length<=1048576):Calls Tryz.prog 303 #[.agg #[v],.agg #[.int .i64 p.fb,.int .i64 p.eV]] W fun e W'=>e=.returned (.int .i64 (eG l p))/\Below W.heap.size W W':=by
 refine(BJ mixed (Hl l p hR GH) (fun g r0 h=>pk h) ?_:Calls _ _ _ _ _).mono ?_
 ·exact lp (vs:= #[.agg #[.int .i64 p.fb,.int .i64 p.eV]]) (.agg _ _ (fun _=>v) rfl (fun a ha=>by simp at ha;rw[ha];rfl) (fun j hj=>by match j,hj with|0,_=>rfl|j+1,hj=>simp at hj) (fun j a ha=>by match j,ha with|0,ha=>simp at ha;subst ha;exact hP.eP|j+1,ha=>simp at ha)) (lp (vs:= #[]) (.agg _ _ (fun j=>if j=0 then .int .i64 p.fb else .int .i64 p.eV) rfl (fun a ha=>by simp[ah]at ha;rcases ha with rfl|rfl<;>rfl) (fun j hj=>by match j,hj with|0,_=>rfl|1,_=>rfl|j+2,hj=>simp[ah]at hj;omega) (fun j a ha=>by match j,ha with|0,ha=>simp[ah]at ha;subst ha;exact .int _ _|1,ha=>simp[ah]at ha;subst ha;exact .int _ _|j+2,ha=>simp[ah]at ha)) xt)
 ·rintro e W' ⟨D,ι,u,rfl,hr,hB⟩
  exact⟨by rw[du hr],hB⟩
theorem grown_of {W W':World} (h:Below W.heap.size W W'):W.grownBy W' none:=⟨h.os,h.tape,h.output,h.size,fun k hk _=>h.block k hk⟩
def CG (l:List ad) (i:Nat) (d:Int):List (Nat×Nat×Int):=if 0<=eG l (dB (aL l i).aP d)then[(i,(eG l (dB (aL l i).aP d)).toNat,d)]else[]
def lj (l:List ad) (i m:Nat):List (Nat×Nat×Int):=(List.range m).flatMap fun j:Nat=>CG l i (1-(j:Int))
def lL (l:List ad) (n:Nat):List (Nat×Nat×Int):=(List.range n).flatMap fun i=>lj l i 2
theorem mU (l:List ad) (n:Nat):lL l (n+1)=lL l n++lj l n 2:=by simp[lL,List.range_succ]
theorem nE (l:List ad) (i m:Nat):lj l i (m+1)=lj l i m++CG l i (1-(m:Int)):=by simp[lj,List.range_succ]
theorem Pq (l:List ad) {k m:Nat} (hk:k<l.length) (hm:m<=2):lL l k++lj l k m <+:lL l l.length:=by
 have h1:∀d,lL l k <+:lL l (k+d):=fun d=>by
  induction d with
  |zero=>exact List.prefix_refl _
  |succ d ih=>rw[<-Nat.add_assoc,mU l (k+d)];exact ih.trans (List.prefix_append _ _)
 have h2:∀d,lL l (k+1) <+:lL l (k+1+d):=fun d=>by
  induction d with
  |zero=>exact List.prefix_refl _
  |succ d ih=>rw[<-Nat.add_assoc,mU l (k+1+d)];exact ih.trans (List.prefix_append _ _)
 have h3:=h2 (l.length-(k+1))
 rw[show k+1+(l.length-(k+1))=l.length by omega,mU]at h3
 refine List.IsPrefix.trans ?_ h3
 have h4:lj l k m <+:lj l k 2:=by
  have:m=0∨m=1∨m=2:=by omega
  rcases this with rfl|rfl|rfl
  ·exact List.nil_prefix
  ·rw[nE l k 1];exact List.prefix_append _ _
  ·exact List.prefix_refl _
 exact(List.prefix_append_right_inj _).2 h4
def QL (l:List ad) (x:Nat×Nat×Int):Prop:=x.1<l.length/\x.2.1<l.length/\(0<=x.2.2/\x.2.2<=1)
def Fx (x:Nat×Nat×Int):Array Value:= #[.agg #[.int .i64 (x.1:Int),.int .i64 (x.2.1:Int)],.int .i64 x.2.2]
theorem Md (l:List ad) (p:aH) (h:0<l.length:=by omega):eG l p<(l.length:Int):=by
 unfold eG
 split<;>omega
theorem Sd (l:List ad) (hA:jK l) (q Ba:Nat) (vS:Value) (K:World->World->Prop) (kl:Ie K vS l) (J Jx:List (Nat×Nat×Int)->World->Prop) (n:Nat) (hn:1<=n)
  (hY:∀pre x W,J pre W->pre.length<(lL l l.length).length->QL l x->YieldAt Fence.wide (n-1) Tryz.prog q (Fx x) W fun e W'=>
   (e=.returned (.bool true)/\J (pre++[x]) W'/\K W W')∨(e=.returned (.bool false)/\Jx (pre++[x]) W'))
  (W:World) (hJ:AbidesFrom W.heap.size J) (Ow:W.heap[Ba]? =some (.cells #[vS] 42 (0,0))) (hP:qn W vS l) (h0:J [] W):
  CallsIn Fence.wide n Tryz.prog 302 #[.func (.yield q) #[] #[],.pointer (some ⟨Ba,0,none⟩)] W fun e W'=>(∃v,e=.returned v)/\
   ((∃ys,ys=lL l l.length/\J ys W')∨(∃pre,pre <+:lL l l.length/\Jx pre W')):=by
 obtain⟨A,cp,rfl,_,_⟩:=hP.sl
 refine callsIn_of_wp Tryz.func302 rfl trivial ?_ rfl
 simp only[Tryz.ntmps302,List.size_toArray,List.length_cons,List.length_nil,Nat.reduceAdd,Nat.reduceSub,Array.replicate_succ,Array.replicate_zero,List.push_toArray,List.append_toArray,List.nil_append,List.cons_append]
 have jP:W.cell? ⟨Ba,0,none⟩=some (.slice A l.length cp):=by simp[World.cell?,Ow]
 gi_wp2
 gi_loopw [11] (fun i wr=>∃k:Nat,k<=l.length/\i=.int .i64 k/\J (lL l k) wr/\K W wr)
  (fun i _=>l.length-(intOf i).toNat)
 case atStart=>exact⟨0,Nat.zero_le _,rfl,h0,kl.refl _⟩
 case round=>
  obtain⟨k,hk,rfl,hJs,hKt⟩:=hrel
  by_cases dY:k<l.length
  ·have dx:∃b o,A=some ⟨b,o,none⟩/\wr.cell? ⟨b,o+k*3,none⟩=some (.int .i64 (aL l k).aP.fb)/\wr.cell? ⟨b,o+k*3+1,none⟩=some (.int .i64 (aL l k).aP.eV)/\wr.cell? ⟨b,o+k*3+2,none⟩=some (.int .i64 (aL l k).aT):=by
    obtain⟨A',c',hv,_,hc⟩:=(kl.pl hKt hP).sl
    cases hv
    rcases hc with rfl|⟨b,o,rfl,kI⟩
    ·simp at dY
    ·obtain⟨h1,h2,h3⟩:=kI k dY
     exact⟨b,o,rfl,by simpa using h1,by rw[Nat.add_assoc];exact h2,by rw[Nat.add_assoc];exact h3⟩
   obtain⟨b,o,rfl,hx,hy',ht⟩:=dx
   gi_wp2
   obtain⟨W2,Rb⟩:∃W2,(wr.alloc (.cells #[.int .i64 (aL l k).aP.fb,.int .i64 (aL l k).aP.eV,.int .i64 (aL l k).aT] 171)).alloc (.cells #[.int .i64 1,.int .i64 0] 2)=W2:=⟨_,rfl⟩
   have qp:Below wr.heap.size wr W2:=by rw[<-Rb];exact((Below.refl _ wr).alloc (Nat.le_refl _) _).alloc (by simp) _
   have Uq:W2.heap[wr.heap.size]? =some (.cells #[.int .i64 (aL l k).aP.fb,.int .i64 (aL l k).aP.eV,.int .i64 (aL l k).aT] 171 (0,0)):=by
    rw[<-Rb,Below.heap_alloc _ _ _ (by simp)];exact World.alloc_heap_new _ _
   have Up:W2.heap[wr.heap.size+1]? =some (.cells #[.int .i64 1,.int .i64 0] 2 (0,0)):=by
    have:=World.alloc_heap_new (wr.alloc (.cells #[.int .i64 (aL l k).aP.fb,.int .i64 (aL l k).aP.eV,.int .i64 (aL l k).aT] 171)) (.cells #[.int .i64 1,.int .i64 0] 2)
    rw[World.size_alloc]at this
    rw[<-Rb];exact this
   have OF:K W W2:=kl.trans hKt (kl.of qp)
   have hJ2:J (lL l k++lj l k 0) W2:=by
    have:=hJ _ _ _ none hJs (grown_of qp) (fun r h=>by cases h)
    simpa[lj]using this
   rw[Rb]
   clear Rb
   generalize wr=w1 at *
   gi_loopw [18] (fun j wr=>∃m:Nat,m<=2/\j=.int .i64 m/\J (lL l k++lj l k m) wr/\K W2 wr)
    (fun j _=>2-(intOf j).toNat)
   case atStart=>exact⟨0,by omega,rfl,hJ2,kl.refl _⟩
   case round=>
    obtain⟨m,hm,rfl,hJm,Nj⟩:=hrel
    have hm0:m=0∨m=1∨m=2:=by omega
    by_cases HY:m<2
    ·have hkd:=kl.typed Nj _ _ _ _ Up (by decide) (by decide)
     have LW:=kl.typed Nj _ _ _ _ Uq (by decide) (by decide)
     have hka:=kl.typed (kl.trans OF Nj) _ _ _ _ Ow (by decide) (by decide)
     have cd:wr.cell? ⟨w1.heap.size+1,m,none⟩=some (.int .i64 (1-(m:Int))):=by
      rw[World.cell?_of_block hkd]
      rcases hm0 with rfl|rfl|rfl
      ·simp[World.cell?,Up]
      ·simp[World.cell?,Up]
      ·omega
     have ct0:wr.cell? ⟨w1.heap.size,0,none⟩=some (.int .i64 (aL l k).aP.fb):=by rw[World.cell?_of_block LW];simp[World.cell?,Uq]
     have ct1:wr.cell? ⟨w1.heap.size,1,none⟩=some (.int .i64 (aL l k).aP.eV):=by rw[World.cell?_of_block LW];simp[World.cell?,Uq]
     have ca:wr.cell? ⟨Ba,0,none⟩=some (.slice (some ⟨b,o,none⟩) l.length cp):=by rw[World.cell?_of_block hka];simp[World.cell?,Ow]
     have hPw:qn wr (.slice (some ⟨b,o,none⟩) l.length cp) l:=kl.pl (kl.trans OF Nj) hP
     have hba:Ba<wr.heap.size:=by
      have h1:=(Array.getElem?_eq_some_iff.1 Ow).1
      have h2:=kl.size (kl.trans OF Nj)
      omega
     have hdm:jf (1-(m:Int)) 0 3=true:=lf (by omega)
     have RI:=tR (hA.pt dY)
     have Qx:=fun w0=>ET w0 (aL l k).aP (1-(m:Int)) hdm RI.1 RI.2
     have hPd:qn wr.drew (.slice (some ⟨b,o,none⟩) l.length cp) l:=hPw.below ⟨rfl,rfl,rfl,Nat.le_refl _,fun _ _=>rfl⟩
     have cad:wr.drew.cell? ⟨Ba,0,none⟩=some (.slice (some ⟨b,o,none⟩) l.length cp):=ca
     have ctd0:wr.drew.cell? ⟨w1.heap.size,0,none⟩=some (.int .i64 (aL l k).aP.fb):=ct0
     have ctd1:wr.drew.cell? ⟨w1.heap.size,1,none⟩=some (.int .i64 (aL l k).aP.eV):=ct1
     have hfw:=hA.oJ
     have Rz:=hA.Dm
     have U8:=mixed
     gi_wp2
     gi_region_with_o (first|(refine⟨trivial,?_⟩;gi_at_call 228;refine(callsIn_wide.2 (Qx _)).mono ?_;rintro e w3 ⟨rfl,B7⟩;have ca3:=(B7.cell (p:=⟨Ba,0,none⟩) hba).trans cad)|(refine⟨trivial,?_⟩;gi_at_call 303;refine(callsIn_wide.2 (yC _ l _ (hPd.below B7) (dB (aL l k).aP (1-(m:Int))) Rz (by omega))).mono ?_;rintro e w4 ⟨rfl,hB4⟩))
     all_goals
      have Ov:Below wr.heap.size wr w4:=(show Below wr.heap.size wr wr.drew from⟨rfl,rfl,rfl,Nat.le_refl _,fun _ _=>rfl⟩).trans (B7.trans (hB4.mono B7.size))
      have hJ4:J (lL l k++lj l k m) w4:=hJ _ _ _ none hJm (grown_of Ov) (fun r h=>by cases h)
      have vd:=Pq l dY (m:=m+1) (by omega)
      rw[nE,<-List.append_assoc]at vd
      have rh:=nE l k m
      have hw:wrap64 ((m:Int)+1)=((m+1:Nat):Int):=by unfold wrap64;omega
      by_cases Ak:0<=eG l (dB (aL l k).aP (1-(m:Int)))
      ·have fB:((eG l (dB (aL l k).aP (1-(m:Int)))).toNat:Int)=eG l (dB (aL l k).aP (1-(m:Int))):=by omega
       rw[CG,if_pos Ak]at vd rh
       obtain⟨fn,tmps,assign,body,hy,hR⟩:=hY _ (k,(eG l (dB (aL l k).aP (1-(m:Int)))).toNat,1-(m:Int)) w4 hJ4 (by
        have:=vd.length_le
        simp only[List.length_append,List.length_cons,List.length_nil]at this ⊢
        omega) ⟨dY,by
        have:eG l (dB (aL l k).aP (1-(m:Int)))<(l.length:Int):=Md _ _
        show(eG l (dB (aL l k).aP (1-(m:Int)))).toNat<l.length
        omega,by show 0<=1-(m:Int);omega,by show 1-(m:Int)<=1;omega⟩
       simp only[Fx,fB]at hy
       gi_wp2
       refine hR.mono ?_
       rintro e W3 (⟨rfl,hJ3,hk3⟩|⟨rfl,hJx3⟩)
       ·gi_wp2
        go_roundw
        case rel=>exact⟨m+1,by omega,by simp,by rw[rh,<-List.append_assoc];exact hJ3,kl.trans (kl.trans Nj (kl.of Ov)) hk3⟩
        case measure=>simp[intOf];omega
       ·gi_wp2
        refine bodyPost_ret (results_none rfl _ _ _) rfl ?_
        exact⟨⟨_,rfl⟩,.inr ⟨_,vd,hJx3⟩⟩
      ·rw[CG,if_neg Ak,List.append_nil]at rh
       gi_wp2
       refine⟨fun _ h=>(by cases h),?_⟩
       gi_wp2
       go_roundw
       case rel=>exact⟨m+1,by omega,by simp,by rw[rh];exact hJ4,kl.trans Nj (kl.of Ov)⟩
       case measure=>simp[intOf];omega
    ·obtain rfl:m=2:=by omega
     have hfw:=hA.oJ
     gi_wp2
     go_roundw
     case rel=>exact⟨k+1,by omega,by simp,by rw[mU];exact hJm,kl.trans OF Nj⟩
     case measure=>simp[intOf];omega
  ·obtain rfl:k=l.length:=by omega
   gi_wp2
   go_end0
   exact⟨⟨_,rfl⟩,.inl ⟨_,rfl,hJs⟩⟩
theorem AB (n:Nat) (vS:Value) (w:World):CallsIn Fence.wide n Tryz.prog 260 #[.agg #[vS]] w fun e w'=>e=.returned (.func (.func 302) #[] #[.pointer (some ⟨w.heap.size,0,none⟩)])/\w'=w.alloc (.cells #[vS] 42):=by
 refine callsIn_of_wp Tryz.func260 rfl trivial ?_ rfl
 simp only[Tryz.ntmps260,List.size_toArray,List.length_cons,List.length_nil,Nat.reduceAdd,Nat.reduceSub,Array.replicate_succ,Array.replicate_zero,List.push_toArray,List.append_toArray,List.nil_append,List.cons_append]
 gi_wp2
 go_ret
 exact⟨rfl,rfl⟩
abbrev NV (l:List ad):Type:={x:Nat×Nat×Int // QL l x}
theorem JV (l:List ad) (hA:jK l) (Ba n:Nat) (hn:1<=n) (vS:Value) (K:World->World->Prop) (kl:Ie K vS l) (w:World) (Ow:w.heap[Ba]? =some (.cells #[vS] 42 (0,0))) (hP:qn w vS l):
  SeqStopsK Fence.wide n Tryz.prog 302 #[.pointer (some ⟨Ba,0,none⟩)] (fun x:NV l=>Fx x.1) K (fun ys=>ys.map (·.1)=lL l l.length) (fun _=>True) (lL l l.length).length w:=fun q J Jx W hW hJ _ hY h0=>by
 refine(Sd l hA q Ba vS K kl (fun ys W=>∃zs:List (NV l),zs.map (·.1)=ys/\J zs W) (fun ys W=>∃zs:List (NV l),zs.map (·.1)=ys/\Jx zs W) n hn (fun pre x W1 hJ1 dY w5=>?_) W (fun s A B row ⟨zs,e,h⟩ hg hr=>⟨zs,e,hJ zs A B row h hg hr⟩) ((hW.block Ba (Array.getElem?_eq_some_iff.1 Ow).1).trans Ow) (hP.below hW) ⟨[],rfl,h0⟩).mono ?_
 ·obtain⟨zs,rfl,h1⟩:=hJ1
  refine YieldAt.mono (hY zs ⟨x,w5⟩ W1 h1 (by simpa using dY)) ?_
  rintro e W' (⟨h2,h3,h4⟩|⟨h2,h3⟩)
  ·exact .inl ⟨h2,⟨zs++[⟨x,w5⟩],by simp,h3⟩,h4⟩
  ·exact .inr ⟨h2,⟨zs++[⟨x,w5⟩],by simp,h3⟩⟩
 ·rintro e W' ⟨h1,⟨ys,rfl,zs,h2,h3⟩|⟨pre,_,zs,h2,h3⟩⟩
  ·exact⟨h1,.inl ⟨zs,h2,h3⟩⟩
  ·exact⟨h1,.inr ⟨zs,trivial,h3⟩⟩
def zT (s:aw) (l:List ad) (x:Nat×Nat×Int):List PB:=if 0<ib s (aL l x.1).aT x.2.2 (aL l x.2.1).aT then[⟨x.1,x.2.1,ib s (aL l x.1).aT x.2.2 (aL l x.2.1).aT⟩]else[]
theorem IA (s:aw) (l:List ad):cP s l=(lL l l.length).flatMap (zT s l):=by
 have h1:∀i d,nw s l i d=(CG l i d).flatMap (zT s l):=fun i d=>by
  unfold nw CG
  by_cases h:0<=eG l (dB (aL l i).aP d)
  ·rw[if_pos h]
   simp only[List.flatMap_cons,List.flatMap_nil,List.append_nil,zT]
   by_cases h2:0<ib s (aL l i).aT d (aL l (eG l (dB (aL l i).aP d)).toNat).aT
   ·rw[if_pos ⟨h,h2⟩,if_pos h2]
   ·rw[if_neg fun hc=>h2 hc.2,if_neg h2]
  ·rw[if_neg h,if_neg fun hc=>h hc.1];rfl
 unfold cP gT lL
 rw[List.flatMap_assoc]
 congr 1
 funext i
 unfold gj lj
 rw[List.flatMap_assoc]
 congr 1
 funext j
 exact h1 i _
end Go.Proofs.YtgoljkjaameagaaGreat.V

namespace Go.Proofs.YtgoljkjaameagaaGreat.V
open Go.RowKit
attribute [local irreducible] dL wpOps gC Call
attribute [local go_sem] aO fM eS ga fZ cU upd cD K.av cR AV.cells AV.cell rowOf rowsOf part ld rowAt bt cw dG ei iu bK dm eB fY e6 dt ep di dh dV dW bU bd cZ bQ db da ek er eo cY ck dj ej bP aQ dd cJ iq br cN bV aZ dr bc dH AV.undef bF bJ dX eh dR dO cK eA eC cI ev eu dc de List.getD_cons_zero List.getD_cons_succ List.getD_nil List.all_cons List.all_nil Bool.and_true Bool.true_and Bool.and_self Bool.not_true Bool.not_false Option.map_some Option.map_none Option.bind_some Option.bind_none List.length_cons List.length_nil List.take_succ_cons List.take_zero List.take_nil List.drop_succ_cons List.drop_zero List.drop_nil List.head?_cons List.map_cons List.map_nil List.getElem?_cons_zero List.getElem?_cons_succ List.cons_append List.nil_append List.append_nil List.length_map List.set_cons_zero List.set_cons_succ Nat.reduceMul eq_self Int.toNat_natCast Int.natCast_nonneg and_self true_and and_true decide_true decide_false Bool.false_eq_true Nat.zero_add Nat.add_zero List.contains_cons List.contains_nil Bool.or_false Bool.false_or beq_self_eq_true Nat.reduceBEq ne_eq not_true_eq_false not_false_eq_true Id.mk.injEq false_and and_false Nat.reduceLT Int.reduceLE Int.reduceLT Int.reduceToNat Int.reduceNeg Int.reduceAdd Nat.le_refl List.length_append beq_true beq_false Bool.not_eq_eq_eq_not or_false false_or dP ai aq aI bh bE cz aY bl aV bf cW bH
def AQ (bs:List PB):AV:=if bs=[]then .cC else .sl (bs.map az)
theorem MP:AQ []=.cC:=rfl
theorem AR {bs:List PB} (h:0<bs.length):AQ bs=.sl (bs.map az):=by
 unfold AQ
 rw[if_neg (by rintro rfl;simp at h)]
theorem yj (cnt:Nat) (yn:1<=cnt) (hn:cnt<=1048576) (bs:List PB) (hb:∀b∈bs,b.a<cnt/\b.b<cnt) (hp:0<bs.length) (qC:bs.length<=1048576) (t:Int):aj Tryz.prog 287 [.int .i64 cnt,.sl (bs.map az),.int .i64 t] (.gO [.int .i64 (leads cnt (eE (aM t bs))).length,AQ (dw (eE (aM t bs)) bs)]):=by
 refine aj.body eI rfl fun hl n0=>?_
 clear hl
 (try((repeat(revert hN;revert N;apply Pn.out));refine wk @Nat.zero_add ?_;(repeat(refine Pn.mk ?_;intro N hN))))
 refine .inr (aJ _ _ _ _ _ (fun r σ1 hq=>?_) (ID bs hp qC _))
 obtain⟨o,rfl,ho,L4,L5,Rr⟩:=hq
 (try dsimp only at ho L4 L5 Rr)
 refine hN _ _ ?_
 clear hN N
 (try((repeat(revert hN;revert N;apply Pn.out));refine wk @Nat.zero_add ?_;(repeat(refine Pn.mk ?_;intro N hN))))
 refine .inr (aJ _ _ _ _ _ (fun r σ2 hq=>?_) (Gx bs t qC o ⟨287000000,n0⟩ _ ho (by rw[Rr _ (by(try dsimp only);omega)];simp only[go_sem, ↓reduceIte,Nat.reduceEqDiff,Nat.reduceAdd,Nat.reduceSub,Nat.reduceLeDiff,reduceCtorEq]) (by(try dsimp only);omega) (by(try dsimp only);omega) (by rintro rfl;simp only at L4;omega)))
 obtain⟨rows,rfl,fV,hrt,rO,nA,Je⟩:=hq
 (try dsimp only at nA Je)
 refine hN _ _ ?_
 clear hN N
 have Dg:=wT cnt yn hn (aM t bs) (fun b h=>hb b (xK h)) (by have:=nJ t bs;omega)
 have hL:=uE (aM t bs)
 have hz:∀x,cV (dP σ2.get) 6 [.int .i64 x,.own o 0 (aM t bs).length]=some [.int .i64 x,.sl ((aM t bs).map az)]:=fun x=>by
  have:V.fz (dP σ2.get) 6 (.own o 0 (aM t bs).length)=some (.sl ((aM t bs).map az)):=by
   rw[gV];simp only[dP,fV,Option.map_some,if_true]
   rw[if_pos (by omega),List.drop_zero,hrt,qW fun b=>z8 _ 4 b];rfl
  simp only[ai,aq,aI,this,Option.map_some]
 (try((repeat(revert hN;revert N;apply Pn.out));refine wk @Nat.zero_add ?_;(repeat(refine Pn.mk ?_;intro N hN))))
 refine .inl ⟨_,aj.x Dg (hz _),?_⟩
 refine hN _ _ ?_
 clear hN N
 generalize eE (aM t bs)=L at *
 have tE:((fD cnt L).map Bj).length=(leads cnt L).length:=by simp[fD]
 have Tk:=jY cnt L
 have jP:(0:Int)<=(cnt:Int):=by omega
 have qD:(cnt:Int)<=((16777216:Nat):Int):=by omega
 have gQ:List.replicate cnt [AV.int .i64 0]=dI (cX cnt L 0 0) cnt:=by rw[xO,pz]
 (try((repeat(revert hN;revert N;apply Pn.out));refine wk (tw @jP (tw @qD (tw @Int.le_refl (tw @tE @gQ)))) ?_;(repeat(refine Pn.mk ?_;intro N hN))))
 refine aW (fun n env st=>∃i:Nat,n=((leads cnt L).length)-i/\i<=((leads cnt L).length)/\env 27=.int .i64 (i:Int)/\st.get ⟨287002001,σ2.next+1⟩=some ⟨true,1,dI (cX cnt L i 0) cnt⟩/\(σ2.next+1<st.next)) ((leads cnt L).length) ⟨0,by omega,by omega,sl (tw @gQ @tE),sl (tw @gQ @tE),(by(try dsimp only);omega)⟩ ?_
 rintro n_c env_c st_c ⟨i,rfl,cle,c27,cg0,cI0⟩ cfr
 have c1:=cfr 1 (by kernel_rfl);have c8:=cfr 8 (by kernel_rfl);have c9:=cfr 9 (by kernel_rfl);have yf:=cfr 25 (by kernel_rfl);have yg:=cfr 26 (by kernel_rfl)
 simp only[go_sem, ↓reduceIte,Nat.reduceEqDiff,Nat.reduceAdd,Nat.reduceSub,Nat.reduceLeDiff,reduceCtorEq,gQ,tE]at c1 c8 c9 yf yg
 clear cfr
 by_cases hi:(i:Int)<((leads cnt L).length:Int)
 ·have iw:∀{e:Env} {gg:Rows} {nx:Nat},(e 27=.int .i64 (IntKind.i64.wrap ((i:Int)+1)))->(gg ⟨287002001,σ2.next+1⟩=some ⟨true,1,dI (cX cnt L (i+1) 0) cnt⟩)->(σ2.next+1<nx)->∃m0,m0<((leads cnt L).length)-i/\∃i:Nat,m0=((leads cnt L).length)-i/\i<=((leads cnt L).length)/\e 27=.int .i64 (i:Int)/\gg ⟨287002001,σ2.next+1⟩=some ⟨true,1,dI (cX cnt L i 0) cnt⟩/\(σ2.next+1<nx):=fun x1 x2 x3=>⟨_,by omega,i+1,rfl,by omega,(by rw[x1,aB (by omega)]),x2,x3⟩
  have fB:i<(leads cnt L).length:=by omega
  have kh:((fD cnt L).map Bj)[i]? =some (Bj (members cnt L (leads cnt L)[i])):=by simp[fD,fB]
  have vN:(leads cnt L).getD i 0=(leads cnt L)[i]:=by simp[List.getD_eq_getElem?_getD,fB]
  have lG:∀m,cX cnt L i m=fun x=>if cm L x<i then cm L x else if x∈(members cnt L (leads cnt L)[i]).take m then i else 0:=fun m=>by unfold cX;rw[vN]
  have sj:=fun x (hx:x<cnt)=>tO hL (n:=cnt) (k:=x) (i:=i) hx fB
  have mM:(members cnt L (leads cnt L)[i]).Nodup:=List.nodup_range.filter _
  have OV:∀x∈members cnt L (leads cnt L)[i],x<cnt:=fun x hx=>(l8.1 hx).1
  have hMc:(members cnt L (leads cnt L)[i]).length<=cnt:=by
   have:=List.length_filter_le (fun k=>L k==(leads cnt L)[i]) (List.range cnt)
   simpa[members]using this
  generalize members cnt L (leads cnt L)[i]=M at *
  have De:(M.map eN).length=M.length:=by simp
  (try((repeat(revert hN;revert N;apply Pn.out));refine wk (tw @c27 (tw @cg0 (tw @c1 (tw @c8 (tw @c9 (tw @yf (tw @yg (tw @hi (tw @tE (tw @kh (tw @Bj.eq_1 @De))))))))))) ?_;(repeat(refine Pn.mk ?_;intro N hN))))
  refine aW (fun n env st=>∃m:Nat,n=(M.length)-m/\m<=(M.length)/\env 34=.int .i64 (m:Int)/\st.get ⟨287002001,σ2.next+1⟩=some ⟨true,1,dI (cX cnt L i m) cnt⟩/\(σ2.next+1<st.next)) (M.length) ⟨0,by omega,by omega,sl (tw @c27 (tw @cg0 (tw @c1 (tw @c8 (tw @c9 (tw @yf (tw @yg @De))))))),sl (tw @c27 (tw @cg0 (tw @c1 (tw @c8 (tw @c9 (tw @yf (tw @yg @De))))))),(by(try dsimp only);omega)⟩ ?_
  rintro n_d env_d st_d ⟨m,rfl,dle,d34,dg0,dI0⟩ dfr
  have d1:=dfr 1 (by kernel_rfl);have d8:=dfr 8 (by kernel_rfl);have d9:=dfr 9 (by kernel_rfl);have d10:=dfr 10 (by kernel_rfl);have d25:=dfr 25 (by kernel_rfl);have d26:=dfr 26 (by kernel_rfl);have d27:=dfr 27 (by kernel_rfl);have d32:=dfr 32 (by kernel_rfl);have d33:=dfr 33 (by kernel_rfl)
  simp only[go_sem, ↓reduceIte,Nat.reduceEqDiff,Nat.reduceAdd,Nat.reduceSub,Nat.reduceLeDiff,reduceCtorEq,c27,cg0,c1,c8,c9,yf,yg,De]at d1 d8 d9 d10 d25 d26 d27 d32 d33
  clear dfr
  have tl:=gq (cX cnt L i m) cnt
  by_cases hm:(m:Int)<(M.length:Int)
  ·have uH:∀{e:Env} {gg:Rows} {nx:Nat},(e 34=.int .i64 (IntKind.i64.wrap ((m:Int)+1)))->(gg ⟨287002001,σ2.next+1⟩=some ⟨true,1,dI (cX cnt L i (m+1)) cnt⟩)->(σ2.next+1<nx)->∃m0,m0<(M.length)-m/\∃m:Nat,m0=(M.length)-m/\m<=(M.length)/\e 34=.int .i64 (m:Int)/\gg ⟨287002001,σ2.next+1⟩=some ⟨true,1,dI (cX cnt L i m) cnt⟩/\(σ2.next+1<nx):=fun x1 x2 x3=>⟨_,by omega,m+1,rfl,by omega,(by rw[x1,aB (by omega)]),x2,x3⟩
   have Al:m<M.length:=by omega
   have wW:(M.map eN)[m]? =some (eN M[m]):=by simp[Al]
   have w7:=OV _ (List.getElem_mem Al)
   have Dl:(M[m]:Int)<(cnt:Int):=by omega
   have Dk:=fy (f:=cX cnt L i m) w7
   have eF:(dI (cX cnt L i m) cnt).set M[m] (eN i)=dI (cX cnt L i (m+1)) cnt:=qk w7 (by
    have h1:=(sj _ w7).1 (List.getElem_mem Al)
    rw[lG]
    simp only[]
    rw[if_neg (by omega),if_pos (by rw[List.take_succ_eq_append_getElem Al];exact List.mem_append_right _ (List.mem_singleton.2 rfl))]) fun x hx ik=>by
    rw[lG,lG]
    simp only[]
    rw[List.take_succ_eq_append_getElem Al]
    simp only[List.mem_append,List.mem_singleton,ik,or_false]
   rw[eN]at eF Dk
   generalize M[m]=xm at *
   (try((repeat(revert hN;revert N;apply Pn.out));refine wk (tw @d34 (tw @dg0 (tw @d1 (tw @d8 (tw @d9 (tw @d10 (tw @d25 (tw @d26 (tw @d27 (tw @d32 (tw @d33 (tw @hm (tw @hi (tw @wW (tw @De (tw @Dl (tw @Dk (tw @tl (tw @eF @eN.eq_1))))))))))))))))))) ?_;(repeat(refine Pn.mk ?_;intro N hN))))
   refine uH ?_ ?_ (by(try dsimp only);omega)
   all_goals simp only[go_sem, ↓reduceIte,Nat.reduceEqDiff,Nat.reduceAdd,Nat.reduceSub,Nat.reduceLeDiff,reduceCtorEq,d34,dg0,d1,d8,d9,d10,d25,d26,d27,d32,d33,eF]
  ·have lF:m=M.length:=by omega
   subst lF
   have rh:dI (cX cnt L i M.length) cnt=dI (cX cnt L (i+1) 0) cnt:=il fun x hx=>by
    rw[lG,List.take_length]
    simp only[cX,List.take_zero,List.not_mem_nil,if_false]
    have h1:=sj x hx
    by_cases h2:cm L x<i
    ·rw[if_pos h2,if_pos (by omega)]
    ·rw[if_neg h2]
     by_cases h3:x∈M
     ·rw[if_pos h3,if_pos (by have:=h1.1 h3;omega),h1.1 h3]
     ·rw[if_neg h3,if_neg fun h4=>h3 (h1.2 (by omega))]
   (try((repeat(revert hN;revert N;apply Pn.out));refine wk (tw @d34 (tw @dg0 (tw @d1 (tw @d8 (tw @d9 (tw @d10 (tw @d25 (tw @d26 (tw @d27 (tw @d32 (tw @d33 (tw @hm (tw @hi (tw @tE @De)))))))))))))) ?_;(repeat(refine Pn.mk ?_;intro N hN))))
   refine iw ?_ ?_ (by(try dsimp only);omega)
   all_goals simp only[go_sem, ↓reduceIte,Nat.reduceEqDiff,Nat.reduceAdd,Nat.reduceSub,Nat.reduceLeDiff,reduceCtorEq,c27,cg0,c1,c8,c9,yf,yg,d34,dg0,d1,d8,d9,d10,d25,d26,d27,d32,d33,rh]
 have lV:i=(leads cnt L).length:=by omega
 subst lV
 have sk:dI (cX cnt L (leads cnt L).length 0) cnt=dI (cm L) cnt:=il fun x hx=>by rw[cX,if_pos (km hL hx)]
 rw[sk]at cg0
 have tl:=gq (cm L) cnt
 have S4:(bs.map az).length=bs.length:=by simp
 (try((repeat(revert hN;revert N;apply Pn.out));refine wk (tw @c27 (tw @cg0 (tw @c1 (tw @c8 (tw @c9 (tw @yf (tw @yg (tw @hi (tw @tE @S4))))))))) ?_;(repeat(refine Pn.mk ?_;intro N hN))))
 have S7:σ2.next+1<st_c.next:=cI0
 refine aW (fun n env st=>∃j:Nat,n=(bs.length)-j/\j<=(bs.length)/\env 46=.int .i64 (j:Int)/\st.get ⟨287002001,σ2.next+1⟩=some ⟨true,1,dI (cm L) cnt⟩/\(st_c.next<=st.next/\((dw L (bs.take j)=[]/\env 14=.cC)∨∃p:Id,env 14=.own p 0 (dw L (bs.take j)).length/\st.get p=some ⟨true,3,(dw L (bs.take j)).map az⟩/\st_c.next<=p.bW/\p.bW<st.next/\0<(dw L (bs.take j)).length))) (bs.length) ⟨0,by omega,by omega,sl (tw @c27 (tw @cg0 (tw @c1 (tw @c8 (tw @c9 (tw @yf (tw @yg @S4))))))),sl (tw @c27 (tw @cg0 (tw @c1 (tw @c8 (tw @c9 (tw @yf (tw @yg @S4))))))),⟨by(try dsimp only);omega,.inl ⟨rfl,by(simp only[go_sem, ↓reduceIte,Nat.reduceEqDiff,Nat.reduceAdd,Nat.reduceSub,Nat.reduceLeDiff,reduceCtorEq])⟩⟩⟩ ?_
 rintro n_f env_f st_f ⟨j,rfl,fle,f46,fg0,fI0⟩ ffr
 have f1:=ffr 1 (by kernel_rfl);have f8:=ffr 8 (by kernel_rfl);have f9:=ffr 9 (by kernel_rfl);have f44:=ffr 44 (by kernel_rfl);have f45:=ffr 45 (by kernel_rfl)
 simp only[go_sem, ↓reduceIte,Nat.reduceEqDiff,Nat.reduceAdd,Nat.reduceSub,Nat.reduceLeDiff,reduceCtorEq,c27,cg0,c1,c8,c9,yf,yg,S4]at f1 f8 f9 f44 f45
 clear ffr
 obtain⟨Qn,fO⟩:=fI0
 have Jy:=dv (i:=⟨287002001,σ2.next+1⟩) (n:=st_f.next) (by(try dsimp only);omega)
 have Dj:=(nH L (bs.take j)).1
 rw[List.length_take]at Dj
 by_cases hj:(j:Int)<(bs.length:Int)
 ·have sH:∀{e:Env} {gg:Rows} {nx:Nat},(e 46=.int .i64 (IntKind.i64.wrap ((j:Int)+1)))->(gg ⟨287002001,σ2.next+1⟩=some ⟨true,1,dI (cm L) cnt⟩)->(st_c.next<=nx/\((dw L (bs.take (j+1))=[]/\e 14=.cC)∨∃p:Id,e 14=.own p 0 (dw L (bs.take (j+1))).length/\gg p=some ⟨true,3,(dw L (bs.take (j+1))).map az⟩/\st_c.next<=p.bW/\p.bW<nx/\0<(dw L (bs.take (j+1))).length))->∃m0,m0<(bs.length)-j/\∃j:Nat,m0=(bs.length)-j/\j<=(bs.length)/\e 46=.int .i64 (j:Int)/\gg ⟨287002001,σ2.next+1⟩=some ⟨true,1,dI (cm L) cnt⟩/\(st_c.next<=nx/\((dw L (bs.take j)=[]/\e 14=.cC)∨∃p:Id,e 14=.own p 0 (dw L (bs.take j)).length/\gg p=some ⟨true,3,(dw L (bs.take j)).map az⟩/\st_c.next<=p.bW/\p.bW<nx/\0<(dw L (bs.take j)).length)):=fun x1 x2 x3=>⟨_,by omega,j+1,rfl,by omega,(by rw[x1,aB (by omega)]),x2,x3⟩
  have iW:j<bs.length:=by omega
  have HU:(bs.map az)[j]? =some (az bs[j]):=by simp[iW]
  have Np:=hb _ (List.getElem_mem iW)
  have hs:=AN L (bs.take j) bs[j]
  rw[<-List.take_succ_eq_append_getElem iW]at hs
  generalize bs[j]=b at *
  have hA:=fy (f:=cm L) Np.1
  have hB:=fy (f:=cm L) Np.2
  have gP:(b.a:Int)<(cnt:Int):=by omega
  have fU:(b.b:Int)<(cnt:Int):=by omega
  rw[eN]at hA hB
  have e1:(dw L (bs.take j)).length+1<=16777216:=by omega
  have lF:((dw L (bs.take j)).map az).length=(dw L (bs.take j)).length:=by simp
  by_cases he:cm L b.a=cm L b.b
  ·rw[if_pos he,List.append_nil]at hs
   have vM:decide ((cm L b.a:Int)=(cm L b.b:Int))=true:=decide_eq_true (by rw[he])
   (try((repeat(revert hN;revert N;apply Pn.out));refine wk (tw @f46 (tw @fg0 (tw @f1 (tw @f8 (tw @f9 (tw @f44 (tw @f45 (tw @hj (tw @HU (tw @hA (tw @hB (tw @gP (tw @fU (tw @tl (tw @vM (tw @Jy (tw @az.eq_1 (tw @Bool.not_true @Bool.not_false)))))))))))))))))) ?_;(repeat(refine Pn.mk ?_;intro N hN))))
   refine sH ?_ ?_ (by(try dsimp only);exact⟨by omega,by
    rw[hs]
    rcases fO with⟨h1,h2⟩|⟨p,h1,h2,h3,h4,h5⟩
    ·exact .inl ⟨h1,sd @h2⟩
    ·have Bn:=dv h4
     exact .inr ⟨p,sd @h1,sd (tw @h2 @Bn),h3,by omega,h5⟩⟩)
   all_goals simp only[go_sem, ↓reduceIte,Nat.reduceEqDiff,Nat.reduceAdd,Nat.reduceSub,Nat.reduceLeDiff,reduceCtorEq,f46,fg0,f1,f8,f9,f44,f45,Jy]
  ·rw[if_neg he]at hs
   have vM:decide ((cm L b.a:Int)=(cm L b.b:Int))=false:=decide_eq_false fun h=>he (by omega)
   rcases fO with⟨h1,f14⟩|⟨p,f14,fg,O0,Jm,hp3⟩
   ·rw[h1]at hs
    (try((repeat(revert hN;revert N;apply Pn.out));refine wk (tw @f46 (tw @fg0 (tw @f1 (tw @f8 (tw @f9 (tw @f44 (tw @f45 (tw @f14 (tw @hj (tw @HU (tw @hA (tw @hB (tw @gP (tw @fU (tw @tl (tw @vM (tw @Jy (tw @az.eq_1 (tw @Bool.not_true @Bool.not_false))))))))))))))))))) ?_;(repeat(refine Pn.mk ?_;intro N hN))))
    refine sH ?_ ?_ (by(try dsimp only);exact⟨by omega,.inr ⟨⟨287017015,st_f.next+1+1+1⟩,by rw[hs];simp only[go_sem, ↓reduceIte,Nat.reduceEqDiff,Nat.reduceAdd,Nat.reduceSub,Nat.reduceLeDiff,reduceCtorEq,List.nil_append,List.length_cons,List.length_nil],by rw[hs];simp only[go_sem, ↓reduceIte,Nat.reduceEqDiff,Nat.reduceAdd,Nat.reduceSub,Nat.reduceLeDiff,reduceCtorEq,az,List.nil_append,List.map_cons,List.map_nil],by(try dsimp only);omega,by(try dsimp only);omega,by rw[hs];simp⟩⟩)
    all_goals simp only[go_sem, ↓reduceIte,Nat.reduceEqDiff,Nat.reduceAdd,Nat.reduceSub,Nat.reduceLeDiff,reduceCtorEq,f46,fg0,f1,f8,f9,f44,f45,Jy]
   ·have x1:=cH (a:=⟨287002001,σ2.next+1⟩) (b:=p) (by(try dsimp only);omega)
    have Bn:=dv Jm
    (try((repeat(revert hN;revert N;apply Pn.out));refine wk (tw @f46 (tw @fg0 (tw @f1 (tw @f8 (tw @f9 (tw @f44 (tw @f45 (tw @f14 (tw @fg (tw @hj (tw @HU (tw @hA (tw @hB (tw @gP (tw @fU (tw @tl (tw @vM (tw @x1 (tw @Bn (tw @Jy (tw @e1 (tw @lF (tw @az.eq_1 (tw @Bool.not_true @Bool.not_false)))))))))))))))))))))))) ?_;(repeat(refine Pn.mk ?_;intro N hN))))
    refine sH ?_ ?_ (by(try dsimp only);exact⟨by omega,.inr ⟨⟨287017015,st_f.next+1+1+1⟩,by rw[hs,List.length_append];simp only[go_sem, ↓reduceIte,Nat.reduceEqDiff,Nat.reduceAdd,Nat.reduceSub,Nat.reduceLeDiff,reduceCtorEq,List.length_cons,List.length_nil],by rw[hs,List.map_append,List.map_cons,List.map_nil];simp only[go_sem, ↓reduceIte,Nat.reduceEqDiff,Nat.reduceAdd,Nat.reduceSub,Nat.reduceLeDiff,reduceCtorEq,az],by(try dsimp only);omega,by(try dsimp only);omega,by rw[hs];simp⟩⟩)
    all_goals simp only[go_sem, ↓reduceIte,Nat.reduceEqDiff,Nat.reduceAdd,Nat.reduceSub,Nat.reduceLeDiff,reduceCtorEq,f46,fg0,f1,f8,f9,f44,f45,x1,Jy]
 ·have im:j=bs.length:=by omega
  subst im
  rw[List.take_length]at fO
  rcases fO with⟨h1,f14⟩|⟨p,f14,fg,O0,Jm,hp3⟩
  ·(try((repeat(revert hN;revert N;apply Pn.out));refine wk (tw @f46 (tw @fg0 (tw @f1 (tw @f8 (tw @f9 (tw @f44 (tw @f45 (tw @f14 (tw @hj @tE))))))))) ?_;(repeat(refine Pn.mk ?_;intro N hN))))
   refine jC (.inl rfl) (r1:=.int .i64 ((leads cnt L).length:Int)) (sd @Nat.zero_add) (by simp only[go_sem, ↓reduceIte,Nat.reduceEqDiff,Nat.reduceAdd,Nat.reduceSub,Nat.reduceLeDiff,reduceCtorEq];rfl) ?_
   simp only[eY,bD,cF,eQ,k6,h1,MP,Option.map_some]
  ·(try((repeat(revert hN;revert N;apply Pn.out));refine wk (tw @f46 (tw @fg0 (tw @f1 (tw @f8 (tw @f9 (tw @f44 (tw @f45 (tw @f14 (tw @hj @tE))))))))) ?_;(repeat(refine Pn.mk ?_;intro N hN))))
   refine jC (.inl rfl) (r1:=.int .i64 ((leads cnt L).length:Int)) (sd @Nat.zero_add) (by simp only[go_sem, ↓reduceIte,Nat.reduceEqDiff,Nat.reduceAdd,Nat.reduceSub,Nat.reduceLeDiff,reduceCtorEq];rfl) ?_
   have h1:gE st_f.get 5 (.own p 0 (dw L bs).length)=some (.sl ((dw L bs).map az)):=fJ (sz:=3) fg rfl fun b=>vH _ 3 b
   simp only[eY,bD,cF,eQ,h1,AR hp3,Option.map_some]
theorem yi (cnt:Nat) (yn:1<=cnt) (hn:cnt<=1048576) (t:Int):aj Tryz.prog 287 [.int .i64 cnt,.cC,.int .i64 t] (.gO [.int .i64 cnt,.cC]):=by
 refine aj.body eI rfl fun hl n0=>?_
 clear hl
 have h1:aj Tryz.prog 322 [.cC] .cC:=by
  refine aj.body eI rfl fun hl n0=>?_
  clear hl
  (try((repeat(revert hN;revert N;apply Pn.out));refine wk @Nat.zero_add ?_;(repeat(refine Pn.mk ?_;intro N hN))))
  exact xD (.inl rfl) (r0:=.cC) (sd @Nat.zero_add) (k6 _ _)
 have h2:aj Tryz.prog 321 [.cC,.fn 323 [.dn [.int .i64 t]]] .cC:=by
  have GO:=(zg [] t (by simp)).cut mixed (.cC (.same _ .nil))
  refine aj.body eI rfl fun hl n0=>?_
  clear hl
  (try((repeat(revert hN;revert N;apply Pn.out));refine wk @Nat.zero_add ?_;(repeat(refine Pn.mk ?_;intro N hN))))
  refine .inl ⟨_,aj.x GO (by simp only[ai,aq,aY,cW,aV,List.all_cons,List.all_nil,AV.cell,Bool.and_true,if_true,Option.map_some]),?_⟩
  refine hN _ _ ?_
  clear hN N
  have hd:decide (kC (fun b:PB=>decide (b.s<t)) []= -1)=true:=rfl
  (try((repeat(revert hN;revert N;apply Pn.out));refine wk @hd ?_;(repeat(refine Pn.mk ?_;intro N hN))))
  exact xD (.inl rfl) (r0:=.cC) (sd @Nat.zero_add) (k6 _ _)
 have Dg:=(wT cnt yn hn [] (fun b h=>by cases h) (by simp)).cut mixed (.same _ (.cC .nil))
 (repeat(first|((repeat(revert hN;revert N;apply Pn.out));refine wk @Nat.zero_add ?_;(repeat(refine Pn.mk ?_;intro N hN)))|((try apply Or.inl);refine⟨_,aj.x (h1) (sd @Nat.zero_add),?_⟩;refine hN _ _ ?_;clear hN N)))
 refine .inl ⟨_,aj.x h2 ?_,?_⟩
 ·have:V.fz (dP (bt (fun _=>none) ⟨287000000,n0⟩ ⟨true,1,[[.int .i64 t]]⟩)) 5 (.ptr ⟨287000000,n0⟩ 0 0)=some (.dn [.int .i64 t]):=wP (sz:=1) (rows:=[[.int .i64 t]]) (by simp[dP,bt]) rfl (by simp only[List.drop_zero,ai,aq,aI,Option.map_some])
  simp only[ai,aq,aY,cW,this,List.all_cons,List.all_nil,AV.cell,Bool.and_true,if_true,Option.map_some]
 refine hN _ _ ?_
 clear hN N
 have fU:eE ([]:List PB)=id:=rfl
 rw[fU]at Dg
 have hL:jM id:=fU▸uE ([]:List PB)
 have Qq:(leads cnt id).length=cnt:=by rw[leads,List.filter_eq_self.2 (fun a _=>by simp)];simp
 generalize (id:Nat->Nat)=L at *
 have tE:((fD cnt L).map Bj).length=(leads cnt L).length:=by simp[fD]
 have Tk:=jY cnt L
 have jP:(0:Int)<=(cnt:Int):=by omega
 have qD:(cnt:Int)<=((16777216:Nat):Int):=by omega
 have gQ:List.replicate cnt [AV.int .i64 0]=dI (cX cnt L 0 0) cnt:=by rw[xO,pz]
 (repeat(first|((repeat(revert hN;revert N;apply Pn.out));refine wk (tw @jP (tw @qD (tw @Int.le_refl (tw @tE @gQ)))) ?_;(repeat(refine Pn.mk ?_;intro N hN)))|((try apply Or.inl);refine⟨_,aj.x (Dg) (sd (tw @jP (tw @qD (tw @Int.le_refl (tw @tE @gQ))))),?_⟩;refine hN _ _ ?_;clear hN N)))
 refine aW (fun n env st=>∃i:Nat,n=((leads cnt L).length)-i/\i<=((leads cnt L).length)/\env 27=.int .i64 (i:Int)/\st.get ⟨287002001,n0+1+1⟩=some ⟨true,1,dI (cX cnt L i 0) cnt⟩/\(n0+1+1<st.next)) ((leads cnt L).length) ⟨0,by omega,by omega,sl (tw @gQ @tE),sl (tw @gQ @tE),(by(try dsimp only);omega)⟩ ?_
 rintro n_c env_c st_c ⟨i,rfl,cle,c27,cg0,cI0⟩ cfr
 have c1:=cfr 1 (by kernel_rfl);have c8:=cfr 8 (by kernel_rfl);have c9:=cfr 9 (by kernel_rfl);have yf:=cfr 25 (by kernel_rfl);have yg:=cfr 26 (by kernel_rfl)
 simp only[go_sem, ↓reduceIte,Nat.reduceEqDiff,Nat.reduceAdd,Nat.reduceSub,Nat.reduceLeDiff,reduceCtorEq,gQ,tE]at c1 c8 c9 yf yg
 clear cfr
 by_cases hi:(i:Int)<((leads cnt L).length:Int)
 ·have iw:∀{e:Env} {gg:Rows} {nx:Nat},(e 27=.int .i64 (IntKind.i64.wrap ((i:Int)+1)))->(gg ⟨287002001,n0+1+1⟩=some ⟨true,1,dI (cX cnt L (i+1) 0) cnt⟩)->(n0+1+1<nx)->∃m0,m0<((leads cnt L).length)-i/\∃i:Nat,m0=((leads cnt L).length)-i/\i<=((leads cnt L).length)/\e 27=.int .i64 (i:Int)/\gg ⟨287002001,n0+1+1⟩=some ⟨true,1,dI (cX cnt L i 0) cnt⟩/\(n0+1+1<nx):=fun x1 x2 x3=>⟨_,by omega,i+1,rfl,by omega,(by rw[x1,aB (by omega)]),x2,x3⟩
  have fB:i<(leads cnt L).length:=by omega
  have kh:((fD cnt L).map Bj)[i]? =some (Bj (members cnt L (leads cnt L)[i])):=by simp[fD,fB]
  have vN:(leads cnt L).getD i 0=(leads cnt L)[i]:=by simp[List.getD_eq_getElem?_getD,fB]
  have lG:∀m,cX cnt L i m=fun x=>if cm L x<i then cm L x else if x∈(members cnt L (leads cnt L)[i]).take m then i else 0:=fun m=>by unfold cX;rw[vN]
  have sj:=fun x (hx:x<cnt)=>tO hL (n:=cnt) (k:=x) (i:=i) hx fB
  have mM:(members cnt L (leads cnt L)[i]).Nodup:=List.nodup_range.filter _
  have OV:∀x∈members cnt L (leads cnt L)[i],x<cnt:=fun x hx=>(l8.1 hx).1
  have hMc:(members cnt L (leads cnt L)[i]).length<=cnt:=by
   have:=List.length_filter_le (fun k=>L k==(leads cnt L)[i]) (List.range cnt)
   simpa[members]using this
  generalize members cnt L (leads cnt L)[i]=M at *
  have De:(M.map eN).length=M.length:=by simp
  (try((repeat(revert hN;revert N;apply Pn.out));refine wk (tw @c27 (tw @cg0 (tw @c1 (tw @c8 (tw @c9 (tw @yf (tw @yg (tw @hi (tw @tE (tw @kh (tw @Bj.eq_1 @De))))))))))) ?_;(repeat(refine Pn.mk ?_;intro N hN))))
  refine aW (fun n env st=>∃m:Nat,n=(M.length)-m/\m<=(M.length)/\env 34=.int .i64 (m:Int)/\st.get ⟨287002001,n0+1+1⟩=some ⟨true,1,dI (cX cnt L i m) cnt⟩/\(n0+1+1<st.next)) (M.length) ⟨0,by omega,by omega,sl (tw @c27 (tw @cg0 (tw @c1 (tw @c8 (tw @c9 (tw @yf (tw @yg @De))))))),sl (tw @c27 (tw @cg0 (tw @c1 (tw @c8 (tw @c9 (tw @yf (tw @yg @De))))))),(by(try dsimp only);omega)⟩ ?_
  rintro n_d env_d st_d ⟨m,rfl,dle,d34,dg0,dI0⟩ dfr
  have d1:=dfr 1 (by kernel_rfl);have d8:=dfr 8 (by kernel_rfl);have d9:=dfr 9 (by kernel_rfl);have d10:=dfr 10 (by kernel_rfl);have d25:=dfr 25 (by kernel_rfl);have d26:=dfr 26 (by kernel_rfl);have d27:=dfr 27 (by kernel_rfl);have d32:=dfr 32 (by kernel_rfl);have d33:=dfr 33 (by kernel_rfl)
  simp only[go_sem, ↓reduceIte,Nat.reduceEqDiff,Nat.reduceAdd,Nat.reduceSub,Nat.reduceLeDiff,reduceCtorEq,c27,cg0,c1,c8,c9,yf,yg,De]at d1 d8 d9 d10 d25 d26 d27 d32 d33
  clear dfr
  have tl:=gq (cX cnt L i m) cnt
  by_cases hm:(m:Int)<(M.length:Int)
  ·have uH:∀{e:Env} {gg:Rows} {nx:Nat},(e 34=.int .i64 (IntKind.i64.wrap ((m:Int)+1)))->(gg ⟨287002001,n0+1+1⟩=some ⟨true,1,dI (cX cnt L i (m+1)) cnt⟩)->(n0+1+1<nx)->∃m0,m0<(M.length)-m/\∃m:Nat,m0=(M.length)-m/\m<=(M.length)/\e 34=.int .i64 (m:Int)/\gg ⟨287002001,n0+1+1⟩=some ⟨true,1,dI (cX cnt L i m) cnt⟩/\(n0+1+1<nx):=fun x1 x2 x3=>⟨_,by omega,m+1,rfl,by omega,(by rw[x1,aB (by omega)]),x2,x3⟩
   have Al:m<M.length:=by omega
   have wW:(M.map eN)[m]? =some (eN M[m]):=by simp[Al]
   have w7:=OV _ (List.getElem_mem Al)
   have Dl:(M[m]:Int)<(cnt:Int):=by omega
   have Dk:=fy (f:=cX cnt L i m) w7
   have eF:(dI (cX cnt L i m) cnt).set M[m] (eN i)=dI (cX cnt L i (m+1)) cnt:=qk w7 (by
    have h1:=(sj _ w7).1 (List.getElem_mem Al)
    rw[lG]
    simp only[]
    rw[if_neg (by omega),if_pos (by rw[List.take_succ_eq_append_getElem Al];exact List.mem_append_right _ (List.mem_singleton.2 rfl))]) fun x hx ik=>by
    rw[lG,lG]
    simp only[]
    rw[List.take_succ_eq_append_getElem Al]
    simp only[List.mem_append,List.mem_singleton,ik,or_false]
   rw[eN]at eF Dk
   generalize M[m]=xm at *
   (try((repeat(revert hN;revert N;apply Pn.out));refine wk (tw @d34 (tw @dg0 (tw @d1 (tw @d8 (tw @d9 (tw @d10 (tw @d25 (tw @d26 (tw @d27 (tw @d32 (tw @d33 (tw @hm (tw @hi (tw @wW (tw @De (tw @Dl (tw @Dk (tw @tl (tw @eF @eN.eq_1))))))))))))))))))) ?_;(repeat(refine Pn.mk ?_;intro N hN))))
   refine uH ?_ ?_ (by(try dsimp only);omega)
   all_goals simp only[go_sem, ↓reduceIte,Nat.reduceEqDiff,Nat.reduceAdd,Nat.reduceSub,Nat.reduceLeDiff,reduceCtorEq,d34,dg0,d1,d8,d9,d10,d25,d26,d27,d32,d33,eF]
  ·have lF:m=M.length:=by omega
   subst lF
   have rh:dI (cX cnt L i M.length) cnt=dI (cX cnt L (i+1) 0) cnt:=il fun x hx=>by
    rw[lG,List.take_length]
    simp only[cX,List.take_zero,List.not_mem_nil,if_false]
    have h1:=sj x hx
    by_cases h2:cm L x<i
    ·rw[if_pos h2,if_pos (by omega)]
    ·rw[if_neg h2]
     by_cases h3:x∈M
     ·rw[if_pos h3,if_pos (by have:=h1.1 h3;omega),h1.1 h3]
     ·rw[if_neg h3,if_neg fun h4=>h3 (h1.2 (by omega))]
   (try((repeat(revert hN;revert N;apply Pn.out));refine wk (tw @d34 (tw @dg0 (tw @d1 (tw @d8 (tw @d9 (tw @d10 (tw @d25 (tw @d26 (tw @d27 (tw @d32 (tw @d33 (tw @hm (tw @hi (tw @tE @De)))))))))))))) ?_;(repeat(refine Pn.mk ?_;intro N hN))))
   refine iw ?_ ?_ (by(try dsimp only);omega)
   all_goals simp only[go_sem, ↓reduceIte,Nat.reduceEqDiff,Nat.reduceAdd,Nat.reduceSub,Nat.reduceLeDiff,reduceCtorEq,c27,cg0,c1,c8,c9,yf,yg,d34,dg0,d1,d8,d9,d10,d25,d26,d27,d32,d33,rh]
 have lV:i=(leads cnt L).length:=by omega
 subst lV
 have sk:dI (cX cnt L (leads cnt L).length 0) cnt=dI (cm L) cnt:=il fun x hx=>by rw[cX,if_pos (km hL hx)]
 rw[sk]at cg0
 have tl:=gq (cm L) cnt
 (try((repeat(revert hN;revert N;apply Pn.out));refine wk (tw @c27 (tw @cg0 (tw @c1 (tw @c8 (tw @c9 (tw @yf (tw @yg (tw @hi @tE)))))))) ?_;(repeat(refine Pn.mk ?_;intro N hN))))
 refine aW (fun n env st=>∃j:Nat,n=(0)-j/\j<=(0)/\env 46=.int .i64 (j:Int)/\env 14=.cC) (0) ⟨0,by omega,by omega,sl (tw @c27 (tw @cg0 (tw @c1 (tw @c8 (tw @c9 (tw @yf @yg)))))),sl (tw @c27 (tw @cg0 (tw @c1 (tw @c8 (tw @c9 (tw @yf @yg))))))⟩ ?_
 rintro n_f env_f st_f ⟨j,rfl,fle,f46,f14⟩ ffr
 have f8:=ffr 8 (by kernel_rfl);have f44:=ffr 44 (by kernel_rfl);have f45:=ffr 45 (by kernel_rfl)
 simp only[go_sem, ↓reduceIte,Nat.reduceEqDiff,Nat.reduceAdd,Nat.reduceSub,Nat.reduceLeDiff,reduceCtorEq,c27,cg0,c1,c8,c9,yf,yg]at f8 f44 f45
 clear ffr
 have hj:¬(j:Int)<((0:Nat):Int):=by omega
 (try((repeat(revert hN;revert N;apply Pn.out));refine wk (tw @f46 (tw @f14 (tw @f8 (tw @f44 (tw @f45 (tw @hj @tE)))))) ?_;(repeat(refine Pn.mk ?_;intro N hN))))
 refine jC (.inl rfl) (r1:=.int .i64 ((leads cnt L).length:Int)) (r2:=.cC) (sd @Nat.zero_add) (sd @Nat.zero_add) ?_
 simp only[eY,bD,cF,eQ,k6,Qq,Option.map_some]
theorem zZ (cnt:Nat) (yn:1<=cnt) (hn:cnt<=1048576) (bs:List PB) (hb:∀b∈bs,b.a<cnt/\b.b<cnt) (qC:bs.length<=1048576) (t:Int):aj Tryz.prog 287 [.int .i64 cnt,AQ bs,.int .i64 t] (.gO [.int .i64 (leads cnt (eE (aM t bs))).length,AQ (dw (eE (aM t bs)) bs)]):=by
 cases bs with
 |nil=>
  have h:=yi cnt yn hn t
  have Qq:(leads cnt (eE (aM t []))).length=cnt:=by
   show(leads cnt id).length=cnt
   rw[leads,List.filter_eq_self.2 (fun a _=>by simp)];simp
  rw[Qq]
  exact h
 |cons b r=>
  rw[AR (by simp)]
  exact yj cnt yn hn (b::r) hb (by simp) qC t
end Go.Proofs.YtgoljkjaameagaaGreat.V

namespace Go.Proofs.YtgoljkjaameagaaGreat.V
open Go.RowKit
attribute [local irreducible] dL wpOps gC Call
attribute [local go_sem] aO fM eS ga fZ cU upd cD K.av cR AV.cells AV.cell rowOf rowsOf part ld rowAt bt cw dG ei iu bK dm eB fY e6 dt ep di dh dV dW bU bd cZ bQ db da ek er eo cY ck dj ej bP aQ dd cJ iq br cN bV aZ dr bc dH AV.undef bF bJ dX eh dR dO cK eA eC cI ev eu dc de List.getD_cons_zero List.getD_cons_succ List.getD_nil List.all_cons List.all_nil Bool.and_true Bool.true_and Bool.and_self Bool.not_true Bool.not_false Option.map_some Option.map_none Option.bind_some Option.bind_none List.length_cons List.length_nil List.take_succ_cons List.take_zero List.take_nil List.drop_succ_cons List.drop_zero List.drop_nil List.head?_cons List.map_cons List.map_nil List.getElem?_cons_zero List.getElem?_cons_succ List.cons_append List.nil_append List.append_nil List.length_map List.set_cons_zero List.set_cons_succ Nat.reduceMul eq_self Int.toNat_natCast Int.natCast_nonneg and_self true_and and_true decide_true decide_false Bool.false_eq_true Nat.zero_add Nat.add_zero List.contains_cons List.contains_nil Bool.or_false Bool.false_or beq_self_eq_true Nat.reduceBEq ne_eq not_true_eq_false not_false_eq_true Id.mk.injEq false_and and_false Nat.reduceLT Int.reduceLE Int.reduceLT Int.reduceToNat Int.reduceNeg Int.reduceAdd Nat.le_refl List.length_append beq_true beq_false Bool.not_eq_eq_eq_not or_false false_or dP ai aq aI bh bE cz aY bl aV bf cW bH
attribute [local go_sem] F9
section
attribute [-go_sem] dG
theorem Mt (n:Nat) (hn:n<=1048576):aj Tryz.prog 340 [.int .u64 1,.int .u64 n] (.gO [.int .u64 0,.int .u64 n]):=by
 refine aj.body eI rfl fun hl n0=>?_
 clear hl
 have b1:(BitVec.ofInt 64 (n:Int)&&& BitVec.ofInt 64 4294967295).toNat=n:=by
  rw[BitVec.toNat_and]
  have e1:(BitVec.ofInt 64 (n:Int)).toNat=n:=by rw[BitVec.toNat_ofInt];omega
  have e2:(BitVec.ofInt 64 4294967295).toNat=2 ^ 32-1:=by decide
  rw[e1,e2]
  exact Nat.and_two_pow_sub_one_of_lt_two_pow (by omega)
 have zn:IntKind.u64.wrap (n:Int)=n:=by rw[IntKind.wrap_u64];omega
 have i1:dG .and .u64 (n:Int) 4294967295=some (.int .u64 n):=by
  show some (AV.int .u64 (IntKind.u64.wrap (((BitVec.ofInt 64 (n:Int)&&& BitVec.ofInt 64 4294967295).toNat:Nat):Int)))= _
  rw[b1,zn]
 have i2:dG .and .u64 1 4294967295=some (.int .u64 1):=rfl
 have i3:dG .and .u64 0 4294967295=some (.int .u64 0):=rfl
 have i4:dG .mul .u64 1 (n:Int)=some (.int .u64 n):=by simp only[dG,Int.one_mul,zn]
 have i5:dG .mul .u64 0 (n:Int)=some (.int .u64 0):=by simp only[dG,Int.zero_mul];rfl
 have i6:dG .mul .u64 1 0=some (.int .u64 0):=rfl
 have i7:dG .mul .u64 0 0=some (.int .u64 0):=rfl
 have i8:dG .add .u64 0 0=some (.int .u64 0):=rfl
 have a3:Int.fdiv 1 (2 ^ min 32 64)=0:=by decide
 have a4:Int.fdiv (n:Int) (2 ^ min 32 64)=0:=by
  rw[Int.fdiv_eq_ediv_of_nonneg _ (by decide)]
  have h32:(2:Int) ^ min 32 64=4294967296:=by decide
  exact Int.ediv_eq_zero_of_lt (by omega) (by omega)
 have z1:Int.fdiv 0 (2 ^ min 32 64)=0:=by decide
 (try((repeat(revert hN;revert N;apply Pn.out));refine wk (tw @i1 (tw @i2 (tw @i3 (tw @i4 (tw @i5 (tw @i6 (tw @i7 (tw @i8 (tw @a3 (tw @a4 @z1)))))))))) ?_;(repeat(refine Pn.mk ?_;intro N hN))))
 refine jC (.inl rfl) (r1:=.int .u64 0) (r2:=.int .u64 n) (sd @Nat.zero_add) (sd @Nat.zero_add) ?_
 simp only[eY,bD,cF,eQ,Option.map_some]
end
theorem Sc (n:Nat) (hn:n<=1048576):aj Tryz.prog 337 [.int .u64 1,.int .u64 n] (.gO [.int .u64 0,.int .u64 n]):=by
 refine aj.body eI rfl fun hl n0=>?_
 clear hl
 have h:=Mt n hn
 (repeat(first|((repeat(revert hN;revert N;apply Pn.out));refine wk @Nat.zero_add ?_;(repeat(refine Pn.mk ?_;intro N hN)))|((try apply Or.inl);refine⟨_,aj.x (h) (sd @Nat.zero_add),?_⟩;refine hN _ _ ?_;clear hN N)))
 refine jC (.inl rfl) (r1:=.int .u64 0) (r2:=.int .u64 n) (sd @Nat.zero_add) (sd @Nat.zero_add) ?_
 simp only[eY,bD,cF,eQ,Option.map_some]
theorem Kg (cnt:Nat) (yn:1<=cnt) (hn:cnt<=1048576) (v:Int) (x:Id) (σ:ar) (hx:σ.get x=some ⟨true,1,[[.int .i64 v]]⟩) (Pg:x.bW<σ.next):
  Call Tryz.prog 327 [.own x 0 1,.int .i64 cnt] σ fun r σ'=>∃o:Id,r=.own o 0 cnt/\σ'.get o=some ⟨true,1,List.replicate cnt [.int .i64 v]⟩/\σ.next<=o.bW/\o.bW<σ'.next/\∀i:Id,i.bW<σ.next->σ'.get i=σ.get i:=by
 refine eW eI rfl fun hl=>?_
 clear hl
 have h:=Sc cnt hn
 have w1:IntKind.u64.wrap (cnt:Int)=cnt:=by rw[IntKind.wrap_u64];omega
 have w2:IntKind.i64.wrap (cnt:Int)=cnt:=KV (by omega)
 have w0:IntKind.u64.wrap ((1:Nat):Int)=1:=by decide
 have g1:¬(cnt:Int)<0:=by omega
 have g2:¬(9223372036854775807:Int)<cnt:=by omega
 have jP:(0:Int)<=(cnt:Int):=by omega
 have qD:(cnt:Int)<=((16777216:Nat):Int):=by omega
 have Qz:=dv Pg
 have rO:(List.replicate cnt [AV.int .i64 0]).length=cnt:=List.length_replicate
 have m1:min 1 cnt=1:=by omega
 (repeat(first|((repeat(revert hN;revert N;apply Pn.out));refine wk (tw @w0 (tw @w1 (tw @w2 (tw @g1 (tw @g2 (tw @jP (tw @qD (tw @Int.le_refl (tw @Nat.le_refl (tw @hx (tw @Qz (tw @rO @m1)))))))))))) ?_;(repeat(refine Pn.mk ?_;intro N hN)))|((try apply Or.inl);refine⟨_,aj.x (h) (sd (tw @w0 (tw @w1 (tw @w2 (tw @g1 (tw @g2 (tw @jP (tw @qD (tw @Int.le_refl (tw @Nat.le_refl (tw @hx (tw @Qz (tw @rO @m1))))))))))))),?_⟩;refine hN _ _ ?_;clear hN N)))
 refine aW (fun m env st=>∃k:Nat,m=cnt-k/\1<=k/\k<=cnt/\env 8=.int .i64 (k:Int)/\st.get ⟨327006002,σ.next+1+1+1+1⟩=some ⟨true,1,List.replicate k [.int .i64 v]++List.replicate (cnt-k) [.int .i64 0]⟩/\σ.next+4<st.next/\∀i:Id,i.bW<σ.next->st.get i=σ.get i) (cnt-1) ⟨1,rfl,Nat.le_refl _,yn,by(simp only[go_sem, ↓reduceIte,Nat.reduceEqDiff,Nat.reduceAdd,Nat.reduceSub,Nat.reduceLeDiff,reduceCtorEq,m1])<;>rfl,?_,by(try dsimp only);omega,fun i hi=>?_⟩ ?_
 ·simp only[go_sem, ↓reduceIte,Nat.reduceEqDiff,Nat.reduceAdd,Nat.reduceSub,Nat.reduceLeDiff,reduceCtorEq]
  rw[List.drop_replicate];rfl
 ·have Ed:=dv hi
  simp only[go_sem, ↓reduceIte,Nat.reduceEqDiff,Nat.reduceAdd,Nat.reduceSub,Nat.reduceLeDiff,reduceCtorEq,Ed]
 rintro m env_b st_b ⟨k,rfl,xY,wY,b8,bg,bn,gu⟩ bkp
 have b7:=bkp 7 (by kernel_rfl)
 simp only[go_sem, ↓reduceIte,Nat.reduceEqDiff,Nat.reduceAdd,Nat.reduceSub,Nat.reduceLeDiff,reduceCtorEq]at b7
 clear bkp
 have RK:(List.replicate k [AV.int .i64 v]++List.replicate (cnt-k) [AV.int .i64 0]).length=cnt:=by simp;omega
 by_cases hk:(k:Int)<(cnt:Int)
 ·have fE:k<cnt:=by omega
  have xX:(k:Int)<=(cnt:Int):=by omega
  have hw:IntKind.i64.wrap ((k:Int)+((min k (cnt-k):Nat):Int))=((k+min k (cnt-k):Nat):Int):=by rw[bz (by omega)];omega
  have oF:List.take k (List.replicate k [AV.int .i64 v]++List.replicate (cnt-k) [AV.int .i64 0])=List.replicate k [AV.int .i64 v]:=List.take_left' (by simp)
  have dE:(List.replicate k [AV.int .i64 v]).all (fun c=>c.length==1&&c.all AV.cell)=true:=List.all_eq_true.2 fun c hc=>by rw[List.eq_of_mem_replicate hc];rfl
  have hlr:(List.replicate k [AV.int .i64 v]).length=k:=List.length_replicate
  have Pa:k+(cnt-k)=cnt:=by omega
  have w6:List.replicate k [AV.int .i64 v]++List.take (min k (cnt-k)) (List.replicate k [AV.int .i64 v])++List.drop (k+min k (cnt-k)) (List.replicate k [AV.int .i64 v]++List.replicate (cnt-k) [AV.int .i64 0])=List.replicate (k+min k (cnt-k)) [AV.int .i64 v]++List.replicate (cnt-(k+min k (cnt-k))) [AV.int .i64 0]:=by
   rw[List.take_replicate,List.drop_append,List.drop_of_length_le (by simp),List.nil_append,hlr,List.drop_replicate,List.replicate_append_replicate]
   congr 2
   ·omega
   ·omega
  (try((repeat(revert hN;revert N;apply Pn.out));refine wk (tw @b7 (tw @b8 (tw @bg (tw @RK (tw @hk (tw @xX (tw @wY (tw @hw (tw @fE (tw @Nat.sub_zero (tw @oF (tw @dE (tw @hlr (tw @Pa (tw @Nat.le_refl @w6))))))))))))))) ?_;(repeat(refine Pn.mk ?_;intro N hN))))
  refine⟨_,?_,k+min k (cnt-k),rfl,by omega,by omega,sd @hw,sd @w6,by(try dsimp only);omega,fun i hi=>?_⟩
  ·omega
  ·have Ed:=dv hi
   have:=gu i hi
   simp only[go_sem, ↓reduceIte,Nat.reduceEqDiff,Nat.reduceAdd,Nat.reduceSub,Nat.reduceLeDiff,reduceCtorEq,Ed,this]
 ·have mC:k=cnt:=by omega
  subst mC
  (try((repeat(revert hN;revert N;apply Pn.out));refine wk (tw @b7 (tw @b8 (tw @bg (tw @RK @hk)))) ?_;(repeat(refine Pn.mk ?_;intro N hN))))
  refine ft (.inl rfl) (vs:=[.own ⟨327006002,σ.next+1+1+1+1⟩ 0 k]) (sd @Nat.zero_add) ⟨⟨327006002,σ.next+1+1+1+1⟩,rfl,by simp only[go_sem, ↓reduceIte,Nat.reduceEqDiff,Nat.reduceAdd,Nat.reduceSub,Nat.reduceLeDiff,reduceCtorEq,bg];simp,by(try dsimp only);omega,by(try dsimp only);omega,fun i hi=>gu i hi⟩
end Go.Proofs.YtgoljkjaameagaaGreat.V

namespace Go.Proofs.YtgoljkjaameagaaGreat.V
open Go.RowKit
attribute [local irreducible] dL wpOps gC Call
attribute [local go_sem] aO fM eS ga fZ cU upd cD K.av cR AV.cells AV.cell rowOf rowsOf part ld rowAt bt cw dG ei iu bK dm eB fY e6 dt ep di dh dV dW bU bd cZ bQ db da ek er eo cY ck dj ej bP aQ dd cJ iq br cN bV aZ dr bc dH AV.undef bF bJ dX eh dR dO cK eA eC cI ev eu dc de List.getD_cons_zero List.getD_cons_succ List.getD_nil List.all_cons List.all_nil Bool.and_true Bool.true_and Bool.and_self Bool.not_true Bool.not_false Option.map_some Option.map_none Option.bind_some Option.bind_none List.length_cons List.length_nil List.take_succ_cons List.take_zero List.take_nil List.drop_succ_cons List.drop_zero List.drop_nil List.head?_cons List.map_cons List.map_nil List.getElem?_cons_zero List.getElem?_cons_succ List.cons_append List.nil_append List.append_nil List.length_map List.set_cons_zero List.set_cons_succ Nat.reduceMul eq_self Int.toNat_natCast Int.natCast_nonneg and_self true_and and_true decide_true decide_false Bool.false_eq_true Nat.zero_add Nat.add_zero List.contains_cons List.contains_nil Bool.or_false Bool.false_or beq_self_eq_true Nat.reduceBEq ne_eq not_true_eq_false not_false_eq_true Id.mk.injEq false_and and_false Nat.reduceLT Int.reduceLE Int.reduceLT Int.reduceToNat Int.reduceNeg Int.reduceAdd Nat.le_refl List.length_append beq_true beq_false Bool.not_eq_eq_eq_not or_false false_or dP ai aq aI bh bE cz aY bl aV bf cW bH
def lx (R:Nat->Id) (n k:Nat):List (List AV):=(List.range k).map fun i=>[.own (R i) 0 n]
theorem kp (R:Nat->Id) (n k:Nat):(lx R n k).length=k:=by simp[lx]
theorem sV {R:Nat->Id} {n k i:Nat} (h:i<k):(lx R n k)[i]? =some [.own (R i) 0 n]:=by simp[lx,h]
theorem ua (R:Nat->Id) (n k:Nat):lx R n (k+1)=lx R n k++[[.own (R k) 0 n]]:=by simp[lx,List.range_succ]
def yG (c:Nat->Nat->Int) (n:Nat):List (List AV):=(List.range n).map fun i=>[.sl (ea (c i) n)]
theorem C2 {c:Nat->Nat->Int} {n i:Nat} (h:i<n):(yG c n)[i]? =some [.sl (ea (c i) n)]:=by simp[yG,h]
theorem xN (c:Nat->Nat->Int) (n:Nat):(yG c n).length=n:=by simp[yG]
structure Gg (X o1 o2:Id) (R1 R2:Nat->Id) (n nb:Nat):Prop where
 sx:X.site=299001001
 s1:o1.site=299004008
 s2:o2.site=299005008
 TF:∀i,i<n->(R1 i).site=299004006
 NK:∀i,i<n->(R2 i).site=299005006
 i1:∀i j,i<n->j<n->R1 i=R1 j->i=j
 i2:∀i j,i<n->j<n->R2 i=R2 j->i=j
 vx:X.bW<nb
 v1:o1.bW<nb
 v2:o2.bW<nb
 TH:∀i,i<n->(R1 i).bW<nb
 QJ:∀i,i<n->(R2 i).bW<nb
structure oi (g:Rows) (X o1 o2:Id) (R1 R2:Nat->Id) (n:Nat) (c f:Nat->Nat->Int):Prop where
 x:g X=some ⟨true,2,[[.own o1 0 n,.own o2 0 n]]⟩
 t1:g o1=some ⟨true,1,lx R1 n n⟩
 t2:g o2=some ⟨true,1,lx R2 n n⟩
 r1:∀i,i<n->g (R1 i)=some ⟨true,1,ea (c i) n⟩
 r2:∀i,i<n->g (R2 i)=some ⟨true,1,ea (f i) n⟩
theorem oi.frame {g g':Rows} {X o1 o2:Id} {R1 R2:Nat->Id} {n nb:Nat} {c f:Nat->Nat->Int} (I:Gg X o1 o2 R1 R2 n nb) (h:oi g X o1 o2 R1 R2 n c f) (hf:∀i:Id,i.bW<nb->g' i=g i):oi g' X o1 o2 R1 R2 n c f:=
 ⟨(hf _ I.vx).trans h.x,(hf _ I.v1).trans h.t1,(hf _ I.v2).trans h.t2,fun i hi=>(hf _ (I.TH i hi)).trans (h.r1 i hi),fun i hi=>(hf _ (I.QJ i hi)).trans (h.r2 i hi)⟩
theorem o9 {f:Nat->Nat->Int} {a b:Nat} {d:Int} {n:Nat} (hb:b<n):(ea (f a) n).set b (bq (f a b+d))=ea (bump f a b d a) n:=ly hb (by simp[bump]) fun i _ hi=>by simp[bump,hi]
theorem kf {f:Nat->Nat->Int} {a b i:Nat} {d:Int} (h:i≠a):bump f a b d i=f i:=by funext v;simp[bump,h]
theorem oi.add {g g':Rows} {X o1 o2:Id} {R1 R2:Nat->Id} {n nb:Nat} {c f:Nat->Nat->Int} (I:Gg X o1 o2 R1 R2 n nb) (h:oi g X o1 o2 R1 R2 n c f) (b:PB) (ha:b.a<n) (hb:b.b<n) (hA:b.a≠b.b->g' (R1 b.a)=some ⟨true,1,ea (bump c b.a b.b b.s b.a) n⟩) (hB:g' (R1 b.b)=some ⟨true,1,ea (oq c b b.b) n⟩) (hf:∀i:Id,i.bW<nb->(i=R1 b.a)=False->(i=R1 b.b)=False->g' i=g i):oi g' X o1 o2 R1 R2 n (oq c b) f:=by
 have ne:∀{i:Id} {s:Nat},i.site=s->(s==299004006)=false->∀a,a<n->(i=R1 a)=False:=fun {i s} hi hs a ha=>by
  simp only[eq_iff_iff,iff_false]
  rintro rfl
  rw[I.TF a ha]at hi
  subst hi
  simp at hs
 refine⟨(hf _ I.vx (ne I.sx (by decide) _ ha) (ne I.sx (by decide) _ hb)).trans h.x,(hf _ I.v1 (ne I.s1 (by decide) _ ha) (ne I.s1 (by decide) _ hb)).trans h.t1,(hf _ I.v2 (ne I.s2 (by decide) _ ha) (ne I.s2 (by decide) _ hb)).trans h.t2,fun i hi=>?_,fun i hi=>(hf _ (I.QJ i hi) (ne (I.NK i hi) (by decide) _ ha) (ne (I.NK i hi) (by decide) _ hb)).trans (h.r2 i hi)⟩
 by_cases Lc:i=b.b
 ·subst Lc;exact hB
 ·by_cases OP:i=b.a
  ·subst OP
   rw[hA Lc,oq,kf Lc]
  ·rw[oq,kf Lc,kf OP,hf _ (I.TH i hi) (by simp only[eq_iff_iff,iff_false];exact fun he=>OP (I.i1 i _ hi ha he)) (by simp only[eq_iff_iff,iff_false];exact fun he=>Lc (I.i1 i _ hi hb he))]
   exact h.r1 i hi
def lT (n:Nat) (c f:Nat->Nat->Int):List AV:=[.sl (yG c n),.sl (yG f n)]
theorem F8 {g:Rows} {R:Nat->Id} {n k:Nat} {c:Nat->Nat->Int} (h:∀i,i<k->g (R i)=some ⟨true,1,ea (c i) n⟩) (m:Nat):dU (dP g) (m+3) (lx R n k)=some ((List.range k).map fun i=>[.sl (ea (c i) n)]):=by
 induction k with
 |zero=>rw[show lx R n 0=[]from rfl,dU];rfl
 |succ k ih=>
  have e1:V.fz (dP g) (m+3) (.own (R k) 0 n)=some (.sl (ea (c k) n)):=by
   rw[gV];simp only[dP,h k (by omega),Option.map_some,if_true]
   rw[if_pos (by rw[dF];omega),List.drop_zero,List.take_of_length_le (by rw[dF];omega),AY];rfl
  have app:∀(xs ys:List (List AV)) (TJ SG:List (List AV)),dU (dP g) (m+3) xs=some TJ->dU (dP g) (m+3) ys=some SG->dU (dP g) (m+3) (xs++ys)=some (TJ++SG):=by
   intro xs
   induction xs with
   |nil=>intro ys TJ SG h1 h2;rw[dU]at h1;cases h1;exact h2
   |cons a xs ih2=>
    intro ys TJ SG h1 h2
    rw[dU]at h1
    rw[List.cons_append,dU]
    cases ha:cV (dP g) (m+3) a with
    |none=>simp[ha]at h1
    |some a'=>
     cases hb:dU (dP g) (m+3) xs with
     |none=>simp[ha,hb]at h1
     |some b'=>
      simp[ha,hb]at h1
      subst h1
      rw[ih2 ys b' SG hb h2];rfl
  rw[ua,List.range_succ,List.map_append]
  refine app _ _ _ _ (ih fun i hi=>h i (by omega)) ?_
  rw[dU,ai,aq,e1,dU];rfl
theorem oi.fz {g:Rows} {X o1 o2:Id} {R1 R2:Nat->Id} {n:Nat} {c f:Nat->Nat->Int} (h:oi g X o1 o2 R1 R2 n c f):V.fz (dP g) 6 (.ptr X 0 0)=some (.dn (lT n c f)):=by
 refine wP (sz:=2) (rows:=[[.own o1 0 n,.own o2 0 n]]) (by simp[dP,h.x]) rfl ?_
 have e1:V.fz (dP g) 5 (.own o1 0 n)=some (.sl (yG c n)):=by
  rw[gV];simp only[dP,h.t1,Option.map_some,if_true]
  rw[if_pos (by rw[kp];omega),List.drop_zero,List.take_of_length_le (by rw[kp];omega)]
  rw[show dU _ 4 _=some (yG c n)from F8 h.r1 1];rfl
 have e2:V.fz (dP g) 5 (.own o2 0 n)=some (.sl (yG f n)):=by
  rw[gV];simp only[dP,h.t2,Option.map_some,if_true]
  rw[if_pos (by rw[kp];omega),List.drop_zero,List.take_of_length_le (by rw[kp];omega)]
  rw[show dU _ 4 _=some (yG f n)from F8 h.r2 1];rfl
 simp only[List.drop_zero,ai,aq,e1,e2,lT,Option.map_some]
theorem Ol (n:Nat) (c f:Nat->Nat->Int) (u v:Nat) (hu:u<n) (hv:v<n):aj Tryz.prog 328 [.dn (lT n c f),.int .i64 u,.int .i64 v] (.bool (decide (f u v<c u v))):=by
 refine aj.body eI rfl fun hl n0=>?_
 clear hl
 have h1:=C2 (c:=c) hu
 have h2:=C2 (c:=f) hu
 have h3:=dS (f:=c u) hv
 have h4:=dS (f:=f u) hv
 have hui:(u:Int)<(n:Int):=by omega
 have Ed:(v:Int)<(n:Int):=by omega
 have l1:=xN c n
 have l2:=xN f n
 have l3:=dF (c u) n
 have l4:=dF (f u) n
 rw[bq]at h3 h4
 (try((repeat(revert hN;revert N;apply Pn.out));refine wk (tw @lT.eq_1 (tw @h1 (tw @h2 (tw @h3 (tw @h4 (tw @hui (tw @Ed (tw @l1 (tw @l2 (tw @l3 @l4)))))))))) ?_;(repeat(refine Pn.mk ?_;intro N hN))))
 exact aU (b:=decide (f u v<c u v)) (.inl rfl) (sd @Nat.zero_add) rfl
theorem HG (n:Nat):List.replicate n [AV.int .i64 0]=ea (fun _=>0) n:=by
 refine List.ext_getElem? fun i=>?_
 by_cases h:i<n
 ·rw[dS h,List.getElem?_replicate,if_pos h];rfl
 ·rw[List.getElem?_eq_none (by simp;omega),List.getElem?_eq_none (by rw[dF];omega)]
theorem AU {i j:Id} {s t:Nat} (hi:i.site=s) (hj:j.site=t) (h:(s==t)=false):(i=j)=False/\(j=i)=False:=by
 constructor<;>(simp only[eq_iff_iff,iff_false];rintro rfl;rw[hi]at hj;subst hj;simp at h)
theorem CI (cnt:Nat) (yn:1<=cnt) (hn:cnt<=1048576) (bs:List PB) (hb:∀b∈bs,b.a<cnt/\b.b<cnt) (dK:∀b∈bs,0<=b.s/\b.s<=4) (qC:bs.length<=1048576) (σ:ar):
  Call Tryz.prog 299 [.int .i64 cnt,.sl (bs.map az)] σ fun r σ'=>∃X o1 o2 R1 R2,r=.ptr X 0 0/\Gg X o1 o2 R1 R2 cnt σ'.next/\σ.next<=σ'.next/\oi σ'.get X o1 o2 R1 R2 cnt (lr bs) (fun _ _=>0)/\∀i:Id,i.bW<σ.next->σ'.get i=σ.get i:=by
 refine eW eI rfl fun hl=>?_
 clear hl
 (try((repeat(revert hN;revert N;apply Pn.out));refine wk @Nat.zero_add ?_;(repeat(refine Pn.mk ?_;intro N hN))))
 obtain⟨X,hX⟩:∃X:Id,X=⟨299001001,σ.next+1⟩:=⟨_,rfl⟩
 obtain⟨R1,Uz⟩:∃R:Nat->Id,R=fun k=>⟨299004006,σ.next+3+4*k+1⟩:=⟨_,rfl⟩
 obtain⟨R2,Q8⟩:∃R:Nat->Id,R=fun k=>⟨299005006,σ.next+3+4*k+2⟩:=⟨_,rfl⟩
 have sX:X.site=299001001:=by rw[hX]
 have vX:X.bW=σ.next+1:=by rw[hX]
 have s1:∀k,(R1 k).site=299004006:=fun k=>by rw[Uz]
 have s2:∀k,(R2 k).site=299005006:=fun k=>by rw[Q8]
 have v1:∀k,(R1 k).bW=σ.next+3+4*k+1:=fun k=>by rw[Uz]
 have v2:∀k,(R2 k).bW=σ.next+3+4*k+2:=fun k=>by rw[Q8]
 have jP:(0:Int)<=(cnt:Int):=by omega
 have qD:(cnt:Int)<=((16777216:Nat):Int):=by omega
 have hz:=HG cnt
 have t1:lx R1 cnt 0=[]:=rfl
 have t2:lx R2 cnt 0=[]:=rfl
 refine aW (fun n env st=>∃k:Nat,n=(cnt)-k/\k<=(cnt)/\env 11=.int .i64 (k:Int)/\env 5=(.ptr X 0 0)/\(st.next=σ.next+3+4*k/\(∀i:Id,i.bW<σ.next->st.get i=σ.get i)/\∀j,j<k->st.get (R1 j)=some ⟨true,1,ea (fun _=>0) cnt⟩/\st.get (R2 j)=some ⟨true,1,ea (fun _=>0) cnt⟩)/\((k=0/\st.get X=some ⟨true,2,[[.cC,.cC]]⟩)∨∃o1 o2:Id,o1.site=299004008/\o2.site=299005008/\o1.bW<st.next/\o2.bW<st.next/\σ.next<=o1.bW/\σ.next<=o2.bW/\st.get X=some ⟨true,2,[[.own o1 0 k,.own o2 0 k]]⟩/\st.get o1=some ⟨true,1,lx R1 cnt k⟩/\st.get o2=some ⟨true,1,lx R2 cnt k⟩)) (cnt) ⟨0,by omega,by omega,sl @hX,sl @hX,⟨rfl,fun i hi=>by(have Ed:=dv hi);simp only[go_sem, ↓reduceIte,Nat.reduceEqDiff,Nat.reduceAdd,Nat.reduceSub,Nat.reduceLeDiff,reduceCtorEq,Ed],fun j hj=>absurd hj (Nat.not_lt_zero j)⟩,.inl ⟨rfl,by rw[hX];simp only[go_sem, ↓reduceIte,Nat.reduceEqDiff,Nat.reduceAdd,Nat.reduceSub,Nat.reduceLeDiff,reduceCtorEq]⟩⟩ ?_
 rintro n_a env_a st_a ⟨k,rfl,ale,a11,a5,me,aI1⟩ dJ
 have a0:=dJ 0 (by kernel_rfl);have a1:=dJ 1 (by kernel_rfl);have yK:=dJ 10 (by kernel_rfl)
 simp only[go_sem, ↓reduceIte,Nat.reduceEqDiff,Nat.reduceAdd,Nat.reduceSub,Nat.reduceLeDiff,reduceCtorEq,hX]at a0 a1 yK
 clear dJ
 obtain⟨anx,dJ,aR⟩:=me
 have wX:=dv (i:=X) (n:=st_a.next) (by omega)
 by_cases hk:(k:Int)<(cnt:Int)
 ·have cG:∀{e:Env} {gg:Rows} {nx:Nat},(e 11=.int .i64 (IntKind.i64.wrap ((k:Int)+1)))->(e 5=(.ptr X 0 0))->(nx=σ.next+3+4*(k+1)/\(∀i:Id,i.bW<σ.next->gg i=σ.get i)/\∀j,j<(k+1)->gg (R1 j)=some ⟨true,1,ea (fun _=>0) cnt⟩/\gg (R2 j)=some ⟨true,1,ea (fun _=>0) cnt⟩)->(((k+1)=0/\gg X=some ⟨true,2,[[.cC,.cC]]⟩)∨∃o1 o2:Id,o1.site=299004008/\o2.site=299005008/\o1.bW<nx/\o2.bW<nx/\σ.next<=o1.bW/\σ.next<=o2.bW/\gg X=some ⟨true,2,[[.own o1 0 (k+1),.own o2 0 (k+1)]]⟩/\gg o1=some ⟨true,1,lx R1 cnt (k+1)⟩/\gg o2=some ⟨true,1,lx R2 cnt (k+1)⟩)->∃m0,m0<(cnt)-k/\∃k:Nat,m0=(cnt)-k/\k<=(cnt)/\e 11=.int .i64 (k:Int)/\e 5=(.ptr X 0 0)/\(nx=σ.next+3+4*k/\(∀i:Id,i.bW<σ.next->gg i=σ.get i)/\∀j,j<k->gg (R1 j)=some ⟨true,1,ea (fun _=>0) cnt⟩/\gg (R2 j)=some ⟨true,1,ea (fun _=>0) cnt⟩)/\((k=0/\gg X=some ⟨true,2,[[.cC,.cC]]⟩)∨∃o1 o2:Id,o1.site=299004008/\o2.site=299005008/\o1.bW<nx/\o2.bW<nx/\σ.next<=o1.bW/\σ.next<=o2.bW/\gg X=some ⟨true,2,[[.own o1 0 k,.own o2 0 k]]⟩/\gg o1=some ⟨true,1,lx R1 cnt k⟩/\gg o2=some ⟨true,1,lx R2 cnt k⟩):=fun x1 x2 x3 x4=>⟨_,by omega,k+1,rfl,by omega,(by rw[x1,aB (by omega)]),x2,x3,x4⟩
  have fE:k<cnt:=by omega
  have xY:R1 k=⟨299004006,st_a.next+1⟩:=by rw[Uz,anx]
  have wY:R2 k=⟨299005006,st_a.next+1+1⟩:=by rw[Q8,anx]
  have FN:lx R1 cnt (k+1)=lx R1 cnt k++[[.own ⟨299004006,st_a.next+1⟩ 0 cnt]]:=by rw[ua,xY]
  have Qw:lx R2 cnt (k+1)=lx R2 cnt k++[[.own ⟨299005006,st_a.next+1+1⟩ 0 cnt]]:=by rw[ua,wY]
  rcases aI1 with⟨rfl,QP⟩|⟨o1,o2,so1,so2,vo1,Sr,vn1,vn2,QP,ag1,ag2⟩
  ·(try((repeat(revert hN;revert N;apply Pn.out));refine wk (tw @a11 (tw @a5 (tw @a0 (tw @a1 (tw @yK (tw @hk (tw @wX (tw @QP (tw @jP (tw @qD (tw @Int.le_refl @hz))))))))))) ?_;(repeat(refine Pn.mk ?_;intro N hN))))
   refine cG ?_ ?_ (by
    (try dsimp only)
    refine⟨by omega,fun i hi=>?_,fun j hj=>?_⟩
    ·have q1:=dv (i:=i) (n:=st_a.next) (by omega)
     have q2:=cH (a:=i) (b:=X) (by omega)
     have:=dJ i hi
     simp only[go_sem, ↓reduceIte,Nat.reduceEqDiff,Nat.reduceAdd,Nat.reduceSub,Nat.reduceLeDiff,reduceCtorEq,q1,q2,this]
    ·by_cases y9:j=0
     ·subst y9
      rw[xY,wY]
      have q1:=ig sX (b:=299004006) (v:=st_a.next+1) (by decide)
      have q2:=ig sX (b:=299005006) (v:=st_a.next+1+1) (by decide)
      simp only[go_sem, ↓reduceIte,Nat.reduceEqDiff,Nat.reduceAdd,Nat.reduceSub,Nat.reduceLeDiff,reduceCtorEq,q1,q2]
     ·obtain⟨r1,r2⟩:=aR j (by omega)
      have q1:=dv (i:=R1 j) (n:=st_a.next) (by rw[v1];omega)
      have q2:=dv (i:=R2 j) (n:=st_a.next) (by rw[v2];omega)
      have q3:=AU (s1 j) sX (by decide)
      have q4:=AU (s2 j) sX (by decide)
      constructor
      ·simp only[go_sem, ↓reduceIte,Nat.reduceEqDiff,Nat.reduceAdd,Nat.reduceSub,Nat.reduceLeDiff,reduceCtorEq,q1,q3,r1]
      ·simp only[go_sem, ↓reduceIte,Nat.reduceEqDiff,Nat.reduceAdd,Nat.reduceSub,Nat.reduceLeDiff,reduceCtorEq,q2,q4,r2]) (.inr ⟨⟨299004008,st_a.next+1⟩,⟨299005008,st_a.next+1+1⟩,rfl,rfl,by(try dsimp only);omega,by(try dsimp only);omega,by(try dsimp only);omega,by(try dsimp only);omega,sd @wX,by rw[FN,t1];simp only[go_sem, ↓reduceIte,Nat.reduceEqDiff,Nat.reduceAdd,Nat.reduceSub,Nat.reduceLeDiff,reduceCtorEq,wX,List.nil_append],by rw[Qw,t2];simp only[go_sem, ↓reduceIte,Nat.reduceEqDiff,Nat.reduceAdd,Nat.reduceSub,Nat.reduceLeDiff,reduceCtorEq,wX,List.nil_append]⟩)
   all_goals simp only[go_sem, ↓reduceIte,Nat.reduceEqDiff,Nat.reduceAdd,Nat.reduceSub,Nat.reduceLeDiff,reduceCtorEq,a11,a5,a0,a1,yK,wX]
  ·have l1:=kp R1 cnt k
   have l2:=kp R2 cnt k
   have e1:k+1<=16777216:=by omega
   have w1:=dv vo1
   have w2:=dv Sr
   have x1:=AU sX so1 (by decide)
   have x2:=AU sX so2 (by decide)
   have x3:=AU so1 so2 (by decide)
   (try((repeat(revert hN;revert N;apply Pn.out));refine wk (tw @a11 (tw @a5 (tw @a0 (tw @a1 (tw @yK (tw @hk (tw @wX (tw @QP (tw @ag1 (tw @ag2 (tw @l1 (tw @l2 (tw @e1 (tw @w1 (tw @w2 (tw @x1 (tw @x2 (tw @x3 (tw @jP (tw @qD (tw @Int.le_refl @hz))))))))))))))))))))) ?_;(repeat(refine Pn.mk ?_;intro N hN))))
   refine cG ?_ ?_ (by
    (try dsimp only)
    refine⟨by omega,fun i hi=>?_,fun j hj=>?_⟩
    ·have q1:=dv (i:=i) (n:=st_a.next) (by omega)
     have q2:=cH (a:=i) (b:=X) (by omega)
     have q3:=cH (a:=i) (b:=o1) (by omega)
     have q4:=cH (a:=i) (b:=o2) (by omega)
     have:=dJ i hi
     simp only[go_sem, ↓reduceIte,Nat.reduceEqDiff,Nat.reduceAdd,Nat.reduceSub,Nat.reduceLeDiff,reduceCtorEq,q1,q2,this,q3,q4]
    ·by_cases y9:j=k
     ·subst y9
      rw[xY,wY]
      have q1:=ig sX (b:=299004006) (v:=st_a.next+1) (by decide)
      have q2:=ig sX (b:=299005006) (v:=st_a.next+1+1) (by decide)
      simp only[go_sem, ↓reduceIte,Nat.reduceEqDiff,Nat.reduceAdd,Nat.reduceSub,Nat.reduceLeDiff,reduceCtorEq,q1,q2,w1,w2]
     ·obtain⟨r1,r2⟩:=aR j (by omega)
      have q1:=dv (i:=R1 j) (n:=st_a.next) (by rw[v1];omega)
      have q2:=dv (i:=R2 j) (n:=st_a.next) (by rw[v2];omega)
      have q3:=AU (s1 j) sX (by decide)
      have q4:=AU (s2 j) sX (by decide)
      have q5:=AU (s1 j) so1 (by decide)
      have q6:=AU (s1 j) so2 (by decide)
      have q7:=AU (s2 j) so1 (by decide)
      have q8:=AU (s2 j) so2 (by decide)
      constructor
      ·simp only[go_sem, ↓reduceIte,Nat.reduceEqDiff,Nat.reduceAdd,Nat.reduceSub,Nat.reduceLeDiff,reduceCtorEq,q1,q3,r1,q5,q6]
      ·simp only[go_sem, ↓reduceIte,Nat.reduceEqDiff,Nat.reduceAdd,Nat.reduceSub,Nat.reduceLeDiff,reduceCtorEq,q2,q4,r2,q7,q8]) (.inr ⟨⟨299004008,st_a.next+1⟩,⟨299005008,st_a.next+1+1⟩,rfl,rfl,by(try dsimp only);omega,by(try dsimp only);omega,by(try dsimp only);omega,by(try dsimp only);omega,sd @wX,by rw[FN];simp only[go_sem, ↓reduceIte,Nat.reduceEqDiff,Nat.reduceAdd,Nat.reduceSub,Nat.reduceLeDiff,reduceCtorEq,wX,w1,w2],by rw[Qw];simp only[go_sem, ↓reduceIte,Nat.reduceEqDiff,Nat.reduceAdd,Nat.reduceSub,Nat.reduceLeDiff,reduceCtorEq,wX,w1,w2]⟩)
   all_goals simp only[go_sem, ↓reduceIte,Nat.reduceEqDiff,Nat.reduceAdd,Nat.reduceSub,Nat.reduceLeDiff,reduceCtorEq,a11,a5,a0,a1,yK,wX,w1,w2,x1,x2,x3]
 have mC:cnt=k:=by omega
 subst mC
 rcases aI1 with⟨h0,_⟩|⟨o1,o2,so1,so2,vo1,Sr,vn1,vn2,QP,ag1,ag2⟩
 ·omega
 (try((repeat(revert hN;revert N;apply Pn.out));refine wk (tw @a11 (tw @a5 (tw @a0 (tw @a1 (tw @yK @hk))))) ?_;(repeat(refine Pn.mk ?_;intro N hN))))
 have I:Gg X o1 o2 R1 R2 cnt st_a.next:=⟨sX,so1,so2,fun i _=>s1 i,fun i _=>s2 i,fun i j _ _ h=>by have:=v1 i;rw[h,v1]at this;omega,fun i j _ _ h=>by have:=v2 i;rw[h,v2]at this;omega,by omega,vo1,Sr,fun i hi=>by rw[v1];omega,fun i hi=>by rw[v2];omega⟩
 refine aW (fun n env st=>∃i:Nat,n=(bs.length)-i/\i<=(bs.length)/\env 38=.int .i64 (i:Int)/\(st_a.next<=st.next/\(∀x:Id,x.bW<σ.next->st.get x=σ.get x)/\oi st.get X o1 o2 R1 R2 cnt (lr (bs.take i)) (fun _ _=>0))) (bs.length) ⟨0,by omega,by omega,sl (tw @a11 (tw @a5 (tw @a0 (tw @a1 @yK)))),⟨by(try dsimp only);omega,dJ,QP,ag1,ag2,fun j hj=>(aR j hj).1,fun j hj=>(aR j hj).2⟩⟩ ?_
 rintro n_b env_b st_b ⟨i,rfl,ble,b38,bI0⟩ gu
 have b0:=gu 0 (by kernel_rfl);have b1:=gu 1 (by kernel_rfl);have b5:=gu 5 (by kernel_rfl);have Qg:=gu 36 (by kernel_rfl);have Qh:=gu 37 (by kernel_rfl)
 simp only[go_sem, ↓reduceIte,Nat.reduceEqDiff,Nat.reduceAdd,Nat.reduceSub,Nat.reduceLeDiff,reduceCtorEq,a11,a5,a0,a1,yK]at b0 b1 b5 Qg Qh
 clear gu
 obtain⟨bn,N5,bM⟩:=bI0
 by_cases hi:(i:Int)<(bs.length:Int)
 ·have gp:∀{e:Env} {gg:Rows} {nx:Nat},(e 38=.int .i64 (IntKind.i64.wrap ((i:Int)+1)))->(st_a.next<=nx/\(∀x:Id,x.bW<σ.next->gg x=σ.get x)/\oi gg X o1 o2 R1 R2 cnt (lr (bs.take (i+1))) (fun _ _=>0))->∃m0,m0<(bs.length)-i/\∃i:Nat,m0=(bs.length)-i/\i<=(bs.length)/\e 38=.int .i64 (i:Int)/\(st_a.next<=nx/\(∀x:Id,x.bW<σ.next->gg x=σ.get x)/\oi gg X o1 o2 R1 R2 cnt (lr (bs.take i)) (fun _ _=>0)):=fun x1 x2=>⟨_,by omega,i+1,rfl,by omega,(by rw[x1,aB (by omega)]),x2⟩
  have fB:i<bs.length:=by omega
  have kh:(bs.map az)[i]? =some (az bs[i]):=by simp[fB]
  have fU:=hb _ (List.getElem_mem fB)
  have hsi:=dK _ (List.getElem_mem fB)
  have tG:lr (bs.take (i+1))=oq (lr (bs.take i)) bs[i]:=by rw[List.take_succ_eq_append_getElem fB,EK]
  have rf:=AM (bs.take i) (fun _ _=>0) (fun b hb=>(dK b (List.mem_of_mem_take hb)).1) (fun _ _=>Int.le_refl _)
  have hle:=room_le (bs.take i) (fun _ _=>0) 0 (fun b hb=>(dK b (List.mem_of_mem_take hb)).2) (fun _ _=>Int.le_refl _) (Int.le_refl _)
  rw[List.length_take]at hle
  have fX:(bs.take i).foldl oq (fun _ _=>0)=lr (bs.take i):=rfl
  rw[fX]at rf hle
  generalize lr (bs.take i)=c at *
  generalize bs[i]=b at *
  obtain⟨ha,tA⟩:=fU
  have gA:=sV (R:=R1) (n:=cnt) ha
  have gB:=sV (R:=R1) (n:=cnt) tA
  have rA:=bM.r1 _ ha
  have rB:=bM.r1 _ tA
  have cA:=dS (f:=c b.a) tA
  have cB:=dS (f:=c b.b) ha
  have sA:=o9 (f:=c) (a:=b.a) (d:=b.s) tA
  have gX:=bM.x
  have g1:=bM.t1
  have gP:(b.a:Int)<(cnt:Int):=by omega
  have fU:(b.b:Int)<(cnt:Int):=by omega
  have qX:=dv (i:=X) (n:=st_b.next) (by omega)
  have q1:=dv (i:=o1) (n:=st_b.next) (by omega)
  have qA:=dv (i:=R1 b.a) (n:=st_b.next) (by rw[v1];omega)
  have qB:=dv (i:=R1 b.b) (n:=st_b.next) (by rw[v1];omega)
  have xA:=AU sX (s1 b.a) (by decide)
  have xB:=AU sX (s1 b.b) (by decide)
  have yA:=AU so1 (s1 b.a) (by decide)
  have yB:=AU so1 (s1 b.b) (by decide)
  have l1:=kp R1 cnt cnt
  have lA:=dF (c b.a) cnt
  have lB:=dF (c b.b) cnt
  have hAB:=hle b.a b.b
  have hBA:=hle b.b b.a
  have gAB:=rf b.a b.b
  have gBA:=rf b.b b.a
  have wA:IntKind.i64.wrap (c b.a b.b+b.s)=c b.a b.b+b.s:=bz (by omega)
  by_cases re:b.a=b.b
  ·obtain⟨ba,bb,s⟩:=b
   dsimp only at *
   subst re
   have O7:=o9 (f:=bump c ba ba s) (a:=ba) (b:=ba) (d:=s) (n:=cnt) ha
   have UJ:=dS (f:=bump c ba ba s ba) ha
   have hv:bump c ba ba s ba ba=c ba ba+s:=by simp[bump]
   have lC:=dF (bump c ba ba s ba) cnt
   have wB:IntKind.i64.wrap (c ba ba+s+s)=c ba ba+s+s:=bz (by omega)
   rw[hv]at O7 UJ
   have tC:oq c ⟨ba,ba,s⟩ ba=bump (bump c ba ba s) ba ba s ba:=rfl
   rw[bq]at cA sA O7 UJ
   (try((repeat(revert hN;revert N;apply Pn.out));refine wk (tw @b38 (tw @b0 (tw @b1 (tw @b5 (tw @Qg (tw @Qh (tw @hi (tw @kh (tw @az.eq_1 (tw @gA (tw @rA (tw @cA (tw @sA (tw @gX (tw @g1 (tw @gP (tw @qX (tw @q1 (tw @qA (tw @xA (tw @yA (tw @l1 (tw @lA (tw @wA (tw @O7 (tw @UJ (tw @lC @wB))))))))))))))))))))))))))) ?_;(repeat(refine Pn.mk ?_;intro N hN))))
   exact gp (sd (tw @b38 (tw @b0 (tw @b1 (tw @b5 (tw @Qg @Qh)))))) (by
    (try dsimp only)
    refine⟨by omega,fun x hx=>?_,?_⟩
    ·have p1:=dv (i:=x) (n:=st_b.next) (by omega)
     have p2:=cH (a:=x) (b:=R1 ba) (by rw[v1];omega)
     have:=N5 x hx
     simp only[go_sem, ↓reduceIte,Nat.reduceEqDiff,Nat.reduceAdd,Nat.reduceSub,Nat.reduceLeDiff,reduceCtorEq,p1,p2,this]
    ·rw[tG]
     refine bM.add I ⟨ba,ba,s⟩ ha ha (fun h=>absurd rfl h) ?_ fun x hx h1 h2=>?_
     ·rw[tC]
      simp only[go_sem, ↓reduceIte,Nat.reduceEqDiff,Nat.reduceAdd,Nat.reduceSub,Nat.reduceLeDiff,reduceCtorEq]
     ·have p1:=dv (i:=x) (n:=st_b.next) (by omega)
      (try dsimp only at h2)
      simp only[go_sem, ↓reduceIte,Nat.reduceEqDiff,Nat.reduceAdd,Nat.reduceSub,Nat.reduceLeDiff,reduceCtorEq,p1,h2])
  ·have ik:(R1 b.a=R1 b.b)=False:=by simp only[eq_iff_iff,iff_false];exact fun h=>re (I.i1 _ _ ha tA h)
   have Jk:(R1 b.b=R1 b.a)=False:=by simp only[eq_iff_iff,iff_false];exact fun h=>re (I.i1 _ _ ha tA h.symm)
   have OY:bump c b.a b.b b.s b.b=c b.b:=kf fun h=>re h.symm
   have O7:=o9 (f:=bump c b.a b.b b.s) (a:=b.b) (b:=b.a) (d:=b.s) (n:=cnt) ha
   rw[OY]at O7
   have wB:IntKind.i64.wrap (c b.b b.a+b.s)=c b.b b.a+b.s:=bz (by omega)
   have tC:oq c b b.b=bump (bump c b.a b.b b.s) b.b b.a b.s b.b:=rfl
   rw[bq]at cA cB sA O7
   (try((repeat(revert hN;revert N;apply Pn.out));refine wk (tw @b38 (tw @b0 (tw @b1 (tw @b5 (tw @Qg (tw @Qh (tw @hi (tw @kh (tw @az.eq_1 (tw @gA (tw @gB (tw @rA (tw @rB (tw @cA (tw @cB (tw @sA (tw @gX (tw @g1 (tw @gP (tw @fU (tw @qX (tw @q1 (tw @qA (tw @qB (tw @xA (tw @xB (tw @yA (tw @yB (tw @l1 (tw @lA (tw @lB (tw @wA (tw @O7 (tw @wB (tw @ik @Jk))))))))))))))))))))))))))))))))))) ?_;(repeat(refine Pn.mk ?_;intro N hN))))
   exact gp (sd (tw @b38 (tw @b0 (tw @b1 (tw @b5 (tw @Qg @Qh)))))) (by
    (try dsimp only)
    refine⟨by omega,fun x hx=>?_,?_⟩
    ·have p1:=dv (i:=x) (n:=st_b.next) (by omega)
     have p2:=cH (a:=x) (b:=R1 b.b) (by rw[v1];omega)
     have p3:=cH (a:=x) (b:=R1 b.a) (by rw[v1];omega)
     have:=N5 x hx
     simp only[go_sem, ↓reduceIte,Nat.reduceEqDiff,Nat.reduceAdd,Nat.reduceSub,Nat.reduceLeDiff,reduceCtorEq,p1,p2,p3,this]
    ·rw[tG]
     refine bM.add I b ha tA (fun h=>?_) ?_ fun x hx h1 h2=>?_
     ·simp only[go_sem, ↓reduceIte,Nat.reduceEqDiff,Nat.reduceAdd,Nat.reduceSub,Nat.reduceLeDiff,reduceCtorEq,ik]
     ·rw[tC]
      simp only[go_sem, ↓reduceIte,Nat.reduceEqDiff,Nat.reduceAdd,Nat.reduceSub,Nat.reduceLeDiff,reduceCtorEq,ik]
     ·have p1:=dv (i:=x) (n:=st_b.next) (by omega)
      simp only[go_sem, ↓reduceIte,Nat.reduceEqDiff,Nat.reduceAdd,Nat.reduceSub,Nat.reduceLeDiff,reduceCtorEq,p1,h1,h2])
 ·have lV:i=bs.length:=by omega
  subst lV
  rw[List.take_length]at bM
  (try((repeat(revert hN;revert N;apply Pn.out));refine wk (tw @b38 (tw @b0 (tw @b1 (tw @b5 (tw @Qg (tw @Qh @hi)))))) ?_;(repeat(refine Pn.mk ?_;intro N hN))))
  exact ft (.inl rfl) (vs:=[.ptr X 0 0]) (sd @Nat.zero_add) ⟨X,o1,o2,R1,R2,rfl,⟨I.sx,I.s1,I.s2,I.TF,I.NK,I.i1,I.i2,by have:=I.vx;(try dsimp only);omega,by have:=I.v1;(try dsimp only);omega,by have:=I.v2;(try dsimp only);omega,fun j hj=>by have:=I.TH j hj;(try dsimp only);omega,fun j hj=>by have:=I.QJ j hj;(try dsimp only);omega⟩,by(try dsimp only);omega,bM,N5⟩
end Go.Proofs.YtgoljkjaameagaaGreat.V

namespace Go.Proofs.YtgoljkjaameagaaGreat.V
structure Bq (n:Nat) (c f:Nat->Nat->Int) (x:Nat) (par:Nat->Int) (Q:List Nat) (i:Nat):Prop where
 nodup:Q.Nodup
 lt:∀v∈Q,v<n
 root:par x=(x:Int)
 mem:x∈Q
 iff:∀v,v<n->(0<=par v↔v∈Q)
 up:∀v∈Q,v≠x->∃u,u∈Q/\par v=(u:Int)/\Q.idxOf u<Q.idxOf v/\f u v<c u v
 done:∀j (_:j<i) (hl:j<Q.length) (v:Nat),v<n->f Q[j] v<c Q[j] v->v∈Q
 ile:i<=Q.length
section
variable {n:Nat} {c f:Nat->Nat->Int} {x:Nat} {par:Nat->Int} {Q:List Nat} {i:Nat}
theorem Bq.len (h:Bq n c f x par Q i):Q.length<=n:=pC n Q h.nodup h.lt
theorem Bq.start (hx:x<n):Bq n c f x (fun v=>if v=x then(x:Int)else -1) [x] 0:=by
 refine⟨by simp,fun v hv=>by simp at hv;omega,by simp,by simp,fun v hv=>?_,fun v hv ik=>absurd (by simpa using hv) ik,fun j hj=>by omega,by simp⟩
 by_cases h:v=x
 ·simp[h]
 ·simp[h]
theorem Bq.visit (h:Bq n c f x par Q i) (hi:i<Q.length) {v:Nat} (hv:v<n) (hp:par v<0) (hr:f Q[i] v<c Q[i] v):Bq n c f x (fun w=>if w=v then(Q[i]:Int)else par w) (Q++[v]) i:=by
 have Vw:v∉Q:=fun hm=>by have:=(h.iff v hv).2 hm;omega
 have Pg:x≠v:=fun e=>Vw (e▸h.mem)
 have Ak:∀u∈Q,(Q++[v]).idxOf u=Q.idxOf u:=fun u hu=>by rw[List.idxOf_append,if_pos hu]
 have wZ:(Q++[v]).idxOf v=Q.length:=by rw[List.idxOf_append,if_neg Vw];simp
 refine⟨?_,fun w hw=>?_,by simp only[if_neg Pg];exact h.root,by simp[h.mem],fun w hw=>?_,fun w hw ik=>?_,fun j hj hl w hw Js=>?_,by simp;omega⟩
 ·refine List.nodup_append.2 ⟨h.nodup,by simp,fun a ha b hb=>?_⟩
  rw[List.mem_singleton.1 hb]
  rintro rfl;exact Vw ha
 ·rcases List.mem_append.1 hw with hw|hw
  ·exact h.lt w hw
  ·rw[List.mem_singleton.1 hw];exact hv
 ·by_cases FP:w=v
  ·subst FP;simp
  ·rw[if_neg FP,h.iff w hw];simp[FP]
 ·by_cases FP:w=v
  ·subst FP
   refine⟨Q[i],by simp,by simp,?_,hr⟩
   rw[Ak _ (List.getElem_mem hi),wZ]
   exact List.idxOf_lt_length_of_mem (List.getElem_mem hi)
  ·have hwQ:w∈Q:=by
    rcases List.mem_append.1 hw with hw|hw
    ·exact hw
    ·exact absurd (List.mem_singleton.1 hw) FP
   obtain⟨u,h1,h2,h3,h4⟩:=h.up w hwQ ik
   exact⟨u,by simp[h1],by rw[if_neg FP];exact h2,by rw[Ak u h1,Ak w hwQ];exact h3,h4⟩
 ·have im:j<Q.length:=by have:=h.ile;omega
  rw[List.getElem_append_left im]at Js
  exact List.mem_append_left _ (h.done j hj im w hw Js)
theorem Bq.next (h:Bq n c f x par Q i) (hi:i<Q.length) (dE:∀v,v<n->f Q[i] v<c Q[i] v->0<=par v):Bq n c f x par Q (i+1):=by
 refine⟨h.nodup,h.lt,h.root,h.mem,h.iff,h.up,fun j hj hl v hv hr=>?_,by omega⟩
 by_cases np:j=i
 ·subst np;exact(h.iff v hv).1 (dE v hv hr)
 ·exact h.done j (by omega) hl v hv hr
theorem Bq.cut (h:Bq n c f x par Q Q.length) {y:Nat} (hy:y<n) (hp:par y<0):∃S:Nat->Bool,S x=true/\S y=false/\∀u v,u<n->v<n->S u=true->S v=false->¬f u v<c u v:=by
 refine⟨fun v=>decide (v∈Q),by simp[h.mem],?_,fun u v hu hv h1 h2 hr=>?_⟩
 ·have:y∉Q:=fun hm=>by have:=(h.iff y hy).2 hm;omega
  simp[this]
 ·simp only[decide_eq_true_eq,decide_eq_false_iff_not]at h1 h2
  obtain⟨j,hj,rfl⟩:=List.getElem_of_mem h1
  exact h2 (h.done j hj hj v hv hr)
def v7 (c f:Nat->Nat->Int) (Q:List Nat) (y k:Nat) (out:List Nat):Prop:=∃rest,out.reverse=k::rest/\(k::rest).getLast (by simp)=y/\rU f c (k::rest)/\(k::rest).Pairwise (fun a b=>Q.idxOf a<Q.idxOf b)/\∀v∈k::rest,v∈Q
theorem v7.start {y:Nat} (hy:y∈Q):v7 c f Q y y [y]:=⟨[],rfl,rfl,trivial,by simp,by simpa using hy⟩
theorem v7.step {y k u:Nat} {out:List Nat} (h:v7 c f Q y k out) (hu:u∈Q) (hi:Q.idxOf u<Q.idxOf k) (hr:f u k<c u k):v7 c f Q y u (out++[u]):=by
 obtain⟨rest,h1,h2,h3,h4,h5⟩:=h
 refine⟨k::rest,by rw[List.reverse_append,h1];rfl,by rw[List.getLast_cons (by simp)];exact h2,⟨hr,h3⟩,?_,?_⟩
 ·refine List.pairwise_cons.2 ⟨fun b hb=>?_,h4⟩
  rcases List.mem_cons.1 hb with rfl|hb
  ·exact hi
  ·have:=(List.pairwise_cons.1 h4).1 b hb;omega
 ·intro v hv
  rcases List.mem_cons.1 hv with rfl|hv
  ·exact hu
  ·exact h5 v hv
theorem v7.len {y k:Nat} {out:List Nat} (h:v7 c f Q y k out) (hq:∀v∈Q,v<n):out.length<=n:=by
 obtain⟨rest,h1,_,_,h4,h5⟩:=h
 rw[<-List.length_reverse,h1]
 refine pC n _ (h4.imp fun dY he=>?_) fun v hv=>hq v (h5 v hv)
 subst he;omega
structure QO (n:Nat) (c f:Nat->Nat->Int) (x y:Nat) (p:List Nat):Prop where
 way:∃r,p=x::r/\(x::r).getLast (by simp)=y
 nodup:p.Nodup
 room:rU f c p
 lt:∀v∈p,v<n
theorem v7.way {y:Nat} {out:List Nat} (h:v7 c f Q y x out) (hq:∀v∈Q,v<n):QO n c f x y out.reverse:=by
 obtain⟨rest,h1,h2,h3,h4,h5⟩:=h
 rw[h1]
 exact⟨⟨rest,rfl,h2⟩,h4.imp fun dY he=>by subst he;omega,h3,fun v hv=>hq v (h5 v hv)⟩
end
end Go.Proofs.YtgoljkjaameagaaGreat.V

namespace Go.Proofs.YtgoljkjaameagaaGreat.V
open Go.RowKit
attribute [local irreducible] dL wpOps gC Call
attribute [local go_sem] aO fM eS ga fZ cU upd cD K.av cR AV.cells AV.cell rowOf rowsOf part ld rowAt bt cw dG ei iu bK dm eB fY e6 dt ep di dh dV dW bU bd cZ bQ db da ek er eo cY ck dj ej bP aQ dd cJ iq br cN bV aZ dr bc dH AV.undef bF bJ dX eh dR dO cK eA eC cI ev eu dc de List.getD_cons_zero List.getD_cons_succ List.getD_nil List.all_cons List.all_nil Bool.and_true Bool.true_and Bool.and_self Bool.not_true Bool.not_false Option.map_some Option.map_none Option.bind_some Option.bind_none List.length_cons List.length_nil List.take_succ_cons List.take_zero List.take_nil List.drop_succ_cons List.drop_zero List.drop_nil List.head?_cons List.map_cons List.map_nil List.getElem?_cons_zero List.getElem?_cons_succ List.cons_append List.nil_append List.append_nil List.length_map List.set_cons_zero List.set_cons_succ Nat.reduceMul eq_self Int.toNat_natCast Int.natCast_nonneg and_self true_and and_true decide_true decide_false Bool.false_eq_true Nat.zero_add Nat.add_zero List.contains_cons List.contains_nil Bool.or_false Bool.false_or beq_self_eq_true Nat.reduceBEq ne_eq not_true_eq_false not_false_eq_true Id.mk.injEq false_and and_false Nat.reduceLT Int.reduceLE Int.reduceLT Int.reduceToNat Int.reduceNeg Int.reduceAdd Nat.le_refl List.length_append beq_true beq_false Bool.not_eq_eq_eq_not or_false false_or dP ai aq aI bh bE cz aY bl aV bf cW bH
def mm (l:List Nat) (i x:Nat):Nat:=if x<i∨l.length-i<=x then l.getD (l.length-1-x) 0 else l.getD x 0
theorem zJ (l:List Nat):l.map eN=dI (fun x=>l.getD x 0) l.length:=by
 refine List.ext_getElem? fun i=>?_
 by_cases h:i<l.length
 ·rw[fy h,List.getElem?_map,List.getElem?_eq_getElem h];simp[List.getD_eq_getElem?_getD,h]
 ·rw[List.getElem?_eq_none (by simp;omega),List.getElem?_eq_none (by rw[gq];omega)]
theorem Hr (l:List Nat):dI (mm l 0) l.length=l.map eN:=by
 rw[zJ]
 exact il fun x hx=>by unfold mm;rw[if_neg (by omega)]
theorem Kk (l:List Nat) {i:Nat} (h:l.length<=2*i+1) (hi:i<=l.length):dI (mm l i) l.length=l.reverse.map eN:=by
 rw[zJ l.reverse,List.length_reverse]
 refine il fun x hx=>?_
 have hr:l.reverse.getD x 0=l.getD (l.length-1-x) 0:=by
  rw[List.getD_eq_getElem?_getD,List.getElem?_reverse hx,List.getD_eq_getElem?_getD]
 rw[hr]
 unfold mm
 by_cases hc:x<i∨l.length-i<=x
 ·rw[if_pos hc]
 ·rw[if_neg hc]
  have:x=l.length-1-x:=by omega
  rw[<-this]
theorem Hs (l:List Nat) (hp:0<l.length) (hl:l.length<=1048576) (o:Id) (σ:ar) (ho:σ.get o=some ⟨true,1,l.map eN⟩) (vO:o.bW<σ.next):
  Call Tryz.prog 329 [.own o 0 l.length] σ fun r σ'=>σ'.get o=some ⟨true,1,l.reverse.map eN⟩/\σ.next<=σ'.next/\∀i:Id,i.bW<σ.next->(i=o)=False->σ'.get i=σ.get i:=by
 refine eW eI rfl fun nB=>?_
 clear nB
 rw[<-Hr]at ho
 have Ty:IntKind.i64.wrap ((l.length:Int)-1)=((l.length-1:Nat):Int):=by rw[bz (by omega)];omega
 (try((repeat(revert hN;revert N;apply Pn.out));refine wk @Ty ?_;(repeat(refine Pn.mk ?_;intro N hN))))
 refine aW (fun m env st=>∃i:Nat,m=l.length-i/\2*i<=l.length+1/\i<=l.length/\env 2=.int .i64 (i:Int)/\env 3=.int .i64 ((l.length:Int)-1-i)/\st.get o=some ⟨true,1,dI (mm l i) l.length⟩/\σ.next<=st.next/\∀x:Id,x.bW<σ.next->(x=o)=False->st.get x=σ.get x) l.length ⟨0,rfl,by omega,by omega,by(simp only[go_sem, ↓reduceIte,Nat.reduceEqDiff,Nat.reduceAdd,Nat.reduceSub,Nat.reduceLeDiff,reduceCtorEq])<;>rfl,by(simp only[go_sem, ↓reduceIte,Nat.reduceEqDiff,Nat.reduceAdd,Nat.reduceSub,Nat.reduceLeDiff,reduceCtorEq,Ty]);congr 1;omega,ho,by(try dsimp only);omega,fun x _ _=>rfl⟩ ?_
 rintro m env_b st_b ⟨i,rfl,y7,lV,b2,b3,bg,bn,gu⟩ bkp
 have b0:=bkp 0 (by kernel_rfl)
 simp only[go_sem, ↓reduceIte,Nat.reduceEqDiff,Nat.reduceAdd,Nat.reduceSub,Nat.reduceLeDiff,reduceCtorEq]at b0
 clear bkp
 have tl:=gq (mm l i) l.length
 have qt:=dv (i:=o) (n:=st_b.next) (by omega)
 by_cases hi:(i:Int)<(l.length:Int)-1-i
 ·have fB:i<l.length:=by omega
  obtain⟨j,hj⟩:∃j,j=l.length-1-i:=⟨_,rfl⟩
  have iW:j<l.length:=by omega
  have LV:(l.length:Int)-1-i=(j:Int):=by omega
  rw[LV]at b3 hi
  have g1:=fy (f:=mm l i) fB
  have g2:=fy (f:=mm l i) iW
  have e1:mm l i i=l.getD i 0:=by unfold mm;rw[if_neg (by omega)]
  have e2:mm l i j=l.getD j 0:=by unfold mm;rw[if_neg (by omega)]
  have Ny:(dI (mm l i) l.length).set i (eN (l.getD j 0))=dI (fun x=>if x=i then l.getD j 0 else mm l i x) l.length:=qk fB (if_pos rfl) fun x _ hx=>if_neg hx
  have Jt:(dI (fun x=>if x=i then l.getD j 0 else mm l i x) l.length).set j (eN (l.getD i 0))=dI (mm l (i+1)) l.length:=qk iW (by unfold mm;rw[if_pos (by omega)];congr 1;omega) fun x hx QB=>by
   by_cases Dl:x=i
   ·rw[if_pos Dl];unfold mm;rw[if_pos (by omega)];congr 1;omega
   ·rw[if_neg Dl];unfold mm
    by_cases hc:x<i∨l.length-i<=x
    ·rw[if_pos hc,if_pos (by omega)]
    ·rw[if_neg hc,if_neg (by omega)]
  have TG:=gq (fun x=>if x=i then l.getD j 0 else mm l i x) l.length
  have g3:=fy (f:=fun x=>if x=i then l.getD j 0 else mm l i x) iW
  rw[e1]at g1
  rw[e2]at g2
  rw[if_neg (by omega),e2]at g3
  rw[eN]at g1 g2 g3 Ny Jt
  have hii:(i:Int)<(l.length:Int):=by omega
  have np:(j:Int)<(l.length:Int):=by omega
  have oL:IntKind.i64.wrap ((i:Int)+1)=((i+1:Nat):Int):=aB (by omega)
  have qu:IntKind.i64.wrap ((j:Int)-1)=(l.length:Int)-1-((i+1:Nat):Int):=by rw[bz (by omega)];omega
  (try((repeat(revert hN;revert N;apply Pn.out));refine wk (tw @b0 (tw @b2 (tw @b3 (tw @bg (tw @hi (tw @hii (tw @np (tw @g1 (tw @g2 (tw @g3 (tw @Ny (tw @Jt (tw @tl (tw @TG (tw @qt (tw @oL @qu)))))))))))))))) ?_;(repeat(refine Pn.mk ?_;intro N hN))))
  refine⟨_,?_,i+1,rfl,by omega,by omega,sd @oL,sd @qu,sd @Jt,by(try dsimp only);omega,fun x hx H4=>?_⟩
  ·omega
  ·have:=gu x hx H4
   simp only[go_sem, ↓reduceIte,Nat.reduceEqDiff,Nat.reduceAdd,Nat.reduceSub,Nat.reduceLeDiff,reduceCtorEq,H4,this]
 ·rw[Kk l (by omega) lV]at bg
  (try((repeat(revert hN;revert N;apply Pn.out));refine wk (tw @b0 (tw @b2 (tw @b3 (tw @bg @hi)))) ?_;(repeat(refine Pn.mk ?_;intro N hN))))
  exact ft (.inr rfl) (vs:=[]) (by simp only[fA,go_sem, ↓reduceIte,Nat.reduceEqDiff,Nat.reduceAdd,Nat.reduceSub,Nat.reduceLeDiff,reduceCtorEq]) ⟨bg,by(try dsimp only);omega,gu⟩
end Go.Proofs.YtgoljkjaameagaaGreat.V
