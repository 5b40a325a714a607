/- The options of a crystal, listed in order. -/
import Derived.Test.YtainmfbpilopaaaGreatDoorGnB
import Derived.Test.YtainmfbpilopaaaGreatDoorGnE
import Derived.Test.YtainmfbpilopaaaGreatDoorGnC
import Derived.Test.YtainmfbpilopaaaGreatDoorGnD
import Derived.Stop.LaidErr
import Derived.Test.YtainmfbpilopaaaGreatDoorChecked
import Derived.Test.YtainmfbpilopaaaGreatDoorRows
import Derived.ProofKit
import Derived.ChangeOld
import Derived.Below
import Derived.WalkKit
import Derived.LaidEql
import Derived.Stop.Asserts
import Derived.RowKitTokens
set_option linter.unusedVariables false
set_option linter.unusedSimpArgs false
set_option maxRecDepth 100000
set_option maxHeartbeats 16000000
namespace Go.Proofs.YtainmfbpilopaaaGreatDoor.V
open Go.RowKit
attribute [local irreducible] ea wpOps fB Call
theorem qC {α:Type} [DecidableEq α]:∀{xs ys:List α},xs.Nodup->(∀x∈xs,x∈ys)->xs.length=ys.length->xs.Perm ys
 |[],ys,_,_,h=>by
  have:ys=[]:=List.eq_nil_of_length_eq_zero h.symm
  subst this;exact List.Perm.nil
 |x::xs,ys,hn,hs,h=>by
  obtain⟨h1,h2⟩:=List.nodup_cons.1 hn
  have hx:=hs x (by simp)
  have hl:=List.length_erase_of_mem hx
  have:=@qC α _ xs (ys.erase x) h2 (fun y hy=>(List.mem_erase_of_ne fun e=>h1 (by rw[<-e];exact hy)).2 (hs y (by simp[hy]))) (by rw[hl];simp only[List.length_cons]at h;omega)
  exact(this.cons x).trans (List.perm_cons_erase hx).symm
theorem oV {L:List ai} (h:oF L):L.Nodup:=List.Pairwise.imp (fun {a b} pM e=>by rw[e,iD]at pM;cases pM) h
theorem QV {L qs:List ai} (hR:oF L) (hp:qs.Perm L) (hs:∀i j:Nat,i<j->j<qs.length->ju (j9 qs j) (j9 qs i)=false):qs=L:=by
 have hd:qs.Nodup:=hp.nodup_iff.2 (oV hR)
 have hq:oF qs:=by
  unfold oF
  unfold List.Nodup at hd
  rw[List.pairwise_iff_getElem]at hd ⊢
  intro i j hi hj BC
  have h1:=hs i j BC hj
  rw[lh hj,lh hi]at h1
  exact xW h1 fun e=>hd i j hi hj BC e.symm
 exact Jm hq hR fun x=>hp.mem_iff
theorem Ld (σ:ax):Call Tryz.prog 244 [.bj,.fn 189 []] σ fun r σ'=>r=.fP []/\σ'.next=σ.next/\σ'.get=σ.get:=by
 refine fG fun hs D ι w vs S U A=>?_
 obtain⟨u1,us1,rfl,h1,h2⟩:=j3 A
 obtain⟨u2,us2,h3,h4,h5⟩:=j3 h2
 simp at h3;subst h3
 have:=uI h5
 simp at this;subst this
 obtain rfl:=jM h1
 refine(Sa _ _ _ w).mono ?_
 rintro e w' ⟨rfl,rfl⟩
 exact⟨.fP [],σ.get,σ.next,D,ι,_,rfl,⟨rfl,rfl,rfl⟩,Step.refl _ _ _ _,S,U,Nat.le_refl _,.fP [] #[] (fun _=>Go.undef) rfl (fun j hj=>by simp at hj) (fun j a h=>by simp at h)⟩
theorem Nq (O:Id) (σ:ax):Call Tryz.prog 252 [.map O mP] σ (fun r σ'=>r=.fn 272 [.ptr ⟨252000000,σ.next⟩ 0 0]/\σ'.get ⟨252000000,σ.next⟩=some ⟨true,1,[[.map O mP]]⟩/\σ.next<σ'.next/\∀x:Id,x.bq<σ.next->σ'.get x=σ.get x):=by
 refine eZ fx rfl fun hl=>?_
 clear hl
 (try((repeat(revert N;apply Pn.out));refine wk @Nat.zero_add ?_;(repeat(apply Pn.mk;intro N hN))))
 exact eo (.inl rfl) (vs:=[.fn 272 [.ptr ⟨252000000,σ.next⟩ 0 0]]) (sd @Nat.zero_add) ⟨rfl,sd @Nat.zero_add,aH,fun x hx=>by
  have:=bZ hx
  simp only[go_sem, ↓reduceIte,Nat.reduceEqDiff,Nat.reduceAdd,Nat.reduceSub,Nat.reduceLeDiff,reduceCtorEq,this]⟩
theorem JQ {σ:ax} {X O:Id} {b1 b2:Bool} {es:List En} (hX:σ.get X=some ⟨b1,1,[[.map O mP]]⟩) (hO:σ.get O=some ⟨b2,mP.j4,es.map pG⟩) (hl:es.length<=1000000) (hXv:X.bq<σ.next) (EX:O.bq<σ.next):
  Call Tryz.prog 271 [.fn 272 [.ptr X 0 0]] σ (fun r σ'=>σ.next<=σ'.next/\(∀x:Id,x.bq<σ.next->σ'.get x=σ.get x)/\∃ss:List ai,ss.Perm (es.map (·.1))/\((ss=[]/\r=.bj)∨∃o:Id,r=.own o 0 ss.length/\σ'.get o=some ⟨true,2,ss.map ad⟩/\σ.next<=o.bq/\o.bq<σ'.next/\ss≠[])):=by
 refine eZ fx rfl fun fD=>?_
 clear fD
 (try((repeat(revert N;apply Pn.out));refine wk @Nat.zero_add ?_;(repeat(apply Pn.mk;intro N hN))))
 refine .inr (ay _ _ _ _ _ (fun r σ1 hq=>?_) (Ei (σ:=⟨σ.get,_⟩) hX hO hl))
 obtain⟨g1,x1⟩:=σ1
 obtain⟨q1,q2,ss,q3,q4⟩:=hq
 (try dsimp only at q1 q2 q4)
 apply hN
 clear hN N
 (try((repeat(revert N;apply Pn.out));refine wk @Nat.zero_add ?_;(repeat(apply Pn.mk;intro N hN))))
 exact eo (.inl rfl) (vs:=[r]) (sd @Nat.zero_add) ⟨aH,fun x hx=>q2 x ae,ss,q3,by
  rcases q4 with h|⟨o,h1,h2,h3,h4,h5⟩
  ·exact .inl h
  ·exact .inr ⟨o,h1,h2,ae,aH,h5⟩⟩
theorem Oi {σ:ax} {X O:Id} {b1 b2:Bool} {es:List En} (hX:σ.get X=some ⟨b1,1,[[.map O mP]]⟩) (hO:σ.get O=some ⟨b2,mP.j4,es.map pG⟩) (hl:es.length<=1000000) (hXv:X.bq<σ.next) (EX:O.bq<σ.next) (L:List ai) (hR:oF L) (hn:(es.map (·.1)).Nodup) (hm:∀x,x∈L↔x∈es.map (·.1)):
  Call Tryz.prog 251 [.fn 272 [.ptr X 0 0],.fn 189 []] σ (fun r σ'=>σ.next<=σ'.next/\(∀x:Id,x.bq<σ.next->σ'.get x=σ.get x)/\((L=[]/\r=.bj)∨∃o:Id,r=.own o 0 L.length/\σ'.get o=some ⟨true,2,L.map ad⟩/\σ.next<=o.bq/\o.bq<σ'.next/\L≠[])):=by
 refine eZ fx rfl fun fD=>?_
 clear fD
 (try((repeat(revert N;apply Pn.out));refine wk @Nat.zero_add ?_;(repeat(apply Pn.mk;intro N hN))))
 refine .inr (ay _ _ _ _ _ (fun r σ1 hq=>?_) (JQ (σ:=⟨σ.get,_⟩) hX hO hl aH aH))
 obtain⟨g1,x1⟩:=σ1
 obtain⟨q1,q2,ss,q3,q4⟩:=hq
 (try dsimp only at q1 q2 q4)
 have sD:ss.Nodup:=q3.nodup_iff.2 hn
 have rR:∀x,x∈L↔x∈ss:=fun x=>(hm x).trans q3.mem_iff.symm
 apply hN
 clear hN N
 rcases q4 with⟨hs,rfl⟩|⟨o,rfl,q5,q6,q7,q8⟩
 ·have hL:L=[]:=List.eq_nil_iff_forall_not_mem.2 fun x hx=>by have:=(rR x).1 hx;rw[hs]at this;cases this
  (try((repeat(revert N;apply Pn.out));refine wk @Nat.zero_add ?_;(repeat(apply Pn.mk;intro N hN))))
  refine .inr (ay _ _ _ _ _ (fun r σ2 hq=>?_) (Ld ⟨g1,_⟩))
  obtain⟨g2,x2⟩:=σ2
  obtain⟨rfl,u1,u2⟩:=hq
  (try dsimp only at u1 u2)
  apply hN
  clear hN N
  (try((repeat(revert N;apply Pn.out));refine wk @Nat.zero_add ?_;(repeat(apply Pn.mk;intro N hN))))
  exact eo (.inl rfl) (vs:=[.bj]) (sd @Nat.zero_add) ⟨aH,fun x hx=>(congrFun u2 x).trans (q2 x ae),.inl ⟨hL,rfl⟩⟩
 ·have qZ:ss.length<=1048576:=by rw[q3.length_eq,List.length_map];omega
  (try((repeat(revert N;apply Pn.out));refine wk @Nat.zero_add ?_;(repeat(apply Pn.mk;intro N hN))))
  refine .inr (ay _ _ _ _ _ (fun r σ2 hq=>?_) (Lf Yb Sa ss qZ ⟨g1,_⟩ o q5))
  obtain⟨g2,x2⟩:=σ2
  obtain⟨u1,u2,qs,u3,u4,u5,u6⟩:=hq
  (try dsimp only at u1 u2 u3)
  have Y6:qs=L:=QV hR ((qC (oV hR) (fun x hx=>(u5 x).2 ((rR x).1 hx)) (by
   rw[u4]
   exact(qC (oV hR) (fun x hx=>(rR x).1 hx) (Nat.le_antisymm (oa (oV hR) fun x hx=>(rR x).1 hx) (oa sD fun x hx=>(rR x).2 hx))).length_eq)).symm) u6
  rw[Y6]at u3 u4
  have OZ:L≠[]:=fun e=>by rw[e]at u4;exact q8 (List.eq_nil_of_length_eq_zero u4.symm)
  apply hN
  clear hN N
  (try((repeat(revert N;apply Pn.out));refine wk @Nat.zero_add ?_;(repeat(apply Pn.mk;intro N hN))))
  exact eo (.inl rfl) (vs:=[.own o 0 ss.length]) (sd @Nat.zero_add) ⟨aH,fun x hx=>by
   have h1:x≠o:=fun e=>by rw[e]at hx;omega
   exact(u2 x h1).trans (q2 x ae),.inr ⟨o,by rw[u4];rfl,u3,ae,aH,OZ⟩⟩
def Iu (z m:Nat) (L:List aa) (v:AV) (g:Rows) (n:Nat):Prop:=(L=[]/\v=.bj)∨∃u:Id,v=.own u 0 L.length/\g u=some ⟨true,3,L.map ab⟩/\m<=u.bq/\u.bq<n/\0<L.length/\u.site=z
theorem Iu.frame {z m:Nat} {L:List aa} {v v':AV} {g g':Rows} {n n':Nat} (h:Iu z m L v g n) (he:v'=v) (hn:n<=n') (hf:∀x:Id,x.bq<n->g' x=g x):Iu z m L v' g' n':=by
 subst he
 rcases h with h|⟨u,h1,h2,h3,h4,h5⟩
 ·exact .inl h
 ·exact .inr ⟨u,h1,(hf u h4).trans h2,h3,ae,h5⟩
def kj (p:ai) (ks:List Int) (j:Nat):List aa:=(ks.take j).map fun k=>⟨p,k⟩
theorem BV {p:ai} {ks:List Int} {j:Nat} (h:j<ks.length):kj p ks (j+1)=kj p ks j++[⟨p,ks.getD j 0⟩]:=by
 unfold kj
 rw[List.take_succ_eq_append_getElem h,List.map_append]
 simp[List.getD_eq_getElem?_getD,h]
theorem FV (p:ai) (ks:List Int):kj p ks ks.length=ks.map fun k=>(⟨p,k⟩:aa):=by unfold kj;rw[List.take_length]
theorem Jc {ks:List Int} {j:Nat} (h:j<ks.length):(ks.map aM)[j]? =some [.int .i64 (ks.getD j 0)]:=by simp[aM,List.getD_eq_getElem?_getD,h]
structure Zx (g:Rows) (n:Nat) (c T O:Id) (s:au) (l:List aa):Prop where
 row:g c=some ⟨true,6,[[.sl (s.aD.bh.map dZ),.sl (s.aD.aj.map dx),.sl (s.bH.aj.map ab),.int .i64 s.aE,.map T mP,.map O mP]]⟩
 cv:c.bq<n
 ov:O.bq<n
 op:∃es:List En,g O=some ⟨true,mP.j4,es.map pG⟩/\yg g n es (iv s l) (fun _=>True)
theorem Ud {σ:ax} {c T O:Id} {s:au} {l:List aa} (h:Zx σ.get σ.next c T O s l) (hT:1<=s.aE) (hS:gy s.aD) (hA:gx s.aD l):
  Call Tryz.prog 210 [.ptr c 0 0] σ (fun r σ'=>σ.next<=σ'.next/\(∀x:Id,x.bq<σ.next->σ'.get x=σ.get x)/\Iu 210008005 σ.next (tR (ee s l) s.aD.aj.length (jK l)) r σ'.get σ'.next):=by
 refine eZ fx rfl fun fD=>?_
 clear fD
 obtain⟨es,hO,hE⟩:=h.op
 have fE:=h.row
 have v1:=bZ h.cv
 have v2:=bZ h.ov
 have GB:=hS.uW
 have AM:=hA.1.pL
 have TC:∀q,q∈nu s l↔q∈es.map (·.1):=fun q=>by
  rw[zu hT hA]
  rcases hE.at_ q trivial with⟨h1,h2⟩|⟨h1,o,h2,_⟩
  ·refine⟨fun h=>absurd h1 h,fun h=>?_⟩
   obtain⟨e,he,rfl⟩:=List.mem_map.1 h
   exact absurd rfl (h2 e he)
  ·exact⟨fun _=>List.mem_map_of_mem (f:=(·.1)) h2,fun _=>h1⟩
 have Xy:(nu s l).length<=10000:=by
  have h1:(nu s l).length<=(jK l).length:=List.length_filter_le _ _
  have h2:(jK l).length<=l.length*4:=mC l l.length
  omega
 have VU:es.length<=1000000:=by
  have h1:=oa hE.nodup fun x hx=>(TC x).2 hx
  rw[List.length_map]at h1
  omega
 rw[GW]
 have hR:=Hd s l
 have kF:∀q∈nu s l,iv s l q≠[]:=fun q hq=>(zu hT hA q).1 hq
 generalize nu s l=ps at TC Xy hR kF
 (try((repeat(revert N;apply Pn.out));refine wk (tw @fE @v1) ?_;(repeat(apply Pn.mk;intro N hN))))
 refine .inr (ay _ _ _ _ _ (fun r σ1 hq=>?_) (Nq O _))
 obtain⟨g1,x1⟩:=σ1
 obtain⟨rfl,q1,q2,q3⟩:=hq
 (try dsimp only at q1 q2 q3)
 have hO1:g1 O=some ⟨true,mP.j4,es.map pG⟩:=(q3 O (by have:=h.ov;(try dsimp only);omega)).trans hO
 apply hN
 clear hN N
 (try((repeat(revert N;apply Pn.out));refine wk @Nat.zero_add ?_;(repeat(apply Pn.mk;intro N hN))))
 refine .inr (ay _ _ _ _ _ (fun r σ2 hq=>?_) (Oi (σ:=⟨g1,_⟩) q1 hO1 VU aH (by have:=h.ov;(try dsimp only);omega) ps hR hE.nodup TC))
 obtain⟨g2,x2⟩:=σ2
 obtain⟨u1,u2,u3⟩:=hq
 (try dsimp only at u1 u2 u3)
 have Ht:∀x:Id,x.bq<σ.next->g2 x=σ.get x:=fun x hx=>(u2 x ae).trans (q3 x aH)
 apply hN
 clear hN N
 rcases u3 with⟨hps,rfl⟩|⟨o,rfl,ho,Kp,hox,hpne⟩
 ·(try((repeat(revert N;apply Pn.out));refine wk @Nat.zero_add ?_;(repeat(apply Pn.mk;intro N hN))))
  refine cm (fun n env st=>(env 15=.int .i64 0/\env 14=.int .i64 0/\env 3=.bj)/\σ.next<=st.next/\∀x:Id,x.bq<σ.next->st.get x=σ.get x) 0 ⟨⟨sd @Nat.zero_add,sl @Nat.zero_add,sd @Nat.zero_add⟩,aH,fun x hx=>Ht x hx⟩ ?_
  rintro m e st ⟨⟨a15,Po,a3⟩,an,aF⟩ -
  have d0:decide ((0:Int)<0)=false:=rfl
  (try((repeat(revert N;apply Pn.out));refine wk (tw @a3 (tw @Po (tw @a15 @d0))) ?_;(repeat(apply Pn.mk;intro N hN))))
  exact eo (.inl rfl) (vs:=[.bj]) (sd @a3) ⟨aH,fun x hx=>aF x hx,.inl ⟨by rw[hps];rfl,rfl⟩⟩
 ·have Hr:g2 c=some ⟨true,6,[[.sl (s.aD.bh.map dZ),.sl (s.aD.aj.map dx),.sl (s.bH.aj.map ab),.int .i64 s.aE,.map T mP,.map O mP]]⟩:=(Ht c h.cv).trans fE
  have WN:g2 O=some ⟨true,mP.j4,es.map pG⟩:=(Ht O h.ov).trans hO
  have MR:=h.cv
  have EX:=h.ov
  (try((repeat(revert N;apply Pn.out));refine wk @Nat.zero_add ?_;(repeat(apply Pn.mk;intro N hN))))
  refine cm (fun n env st=>∃k:Nat,n=(ps.length)-k/\k<=(ps.length)/\env 15=.int .i64 (k:Int)/\(x2<=st.next/\(∀x:Id,x.bq<x2->st.get x=g2 x)/\Iu 210008005 x2 (tR (ee s l) s.aD.aj.length (ps.take k)) (env 3) st.get st.next)) (ps.length) ⟨0,ae,ae,sl @Nat.zero_add,by(try dsimp only);exact⟨ae,fun x hx=>sd @Nat.zero_add,.inl ⟨rfl,sd @Nat.zero_add⟩⟩⟩ ?_
  rintro n_a env_a st_a ⟨k,rfl,ale,a15,qN⟩ eF
  have a0:=eF 0 (by kernel_rfl);have Sw:=eF 13 (by kernel_rfl);have Po:=eF 14 (by kernel_rfl)
  simp only[go_sem, ↓reduceIte,Nat.reduceEqDiff,Nat.reduceAdd,Nat.reduceSub,Nat.reduceLeDiff,reduceCtorEq]at a0 Sw Po
  clear eF
  obtain⟨an,eF,a3⟩:=qN
  have bl:(tR (ee s l) s.aD.aj.length (ps.take k)).length<=10000*160:=by
   have h2:=xL (ee s l) s.aD.aj.length (ps.take k)
   have h3:(ps.take k).length*s.aD.aj.length<=10000*160:=Nat.mul_le_mul (by rw[List.length_take];omega) GB
   omega
  by_cases hk:(k:Int)<(ps.length:Int)
  ·have eh:∀{e:Env} {gg:Rows} {nx:Nat},(e 15=.int .i64 (IntKind.i64.wrap ((k:Int)+1)))->(x2<=nx/\(∀x:Id,x.bq<x2->gg x=g2 x)/\Iu 210008005 x2 (tR (ee s l) s.aD.aj.length (ps.take (k+1))) (e 3) gg nx)->∃m0,m0<(ps.length)-k/\∃k:Nat,m0=(ps.length)-k/\k<=(ps.length)/\e 15=.int .i64 (k:Int)/\(x2<=nx/\(∀x:Id,x.bq<x2->gg x=g2 x)/\Iu 210008005 x2 (tR (ee s l) s.aD.aj.length (ps.take k)) (e 3) gg nx):=fun x1 x2=>⟨_,ae,k+1,rfl,ae,(by rw[x1,bf ae]),x2⟩
   have jg:k<ps.length:=ae
   have As:=(eF o hox).trans ho
   have vao:=bZ (i:=o) (n:=st_a.next) ae
   have iK:=xj jg
   have RH:=(eF c ae).trans Hr
   have vac:=bZ (i:=c) (n:=st_a.next) ae
   have YU:=(eF O ae).trans WN
   have vaO:=bZ (i:=O) (n:=st_a.next) ae
   obtain⟨o',EY,ho'v,TG⟩:∃o':Id,(j9 ps k,AV.own o' 0 (iv s l (j9 ps k)).length)∈es/\o'.bq<σ.next/\σ.get o'=some ⟨true,1,(iv s l (j9 ps k)).map aM⟩:=by
    rcases hE.at_ (j9 ps k) trivial with⟨h1,_⟩|⟨_,o',h2⟩
    ·exact absurd h1 (kF _ (Ds jg))
    ·exact⟨o',h2⟩
   obtain⟨fi,Aq,_,_,Fh,Xq⟩:=wq (j9 ps k) es
   obtain⟨j0,rfl,RI⟩:∃j,fi=some j/\(es.map pG)[j]? =some [.int .i64 (j9 ps k).eV,.int .i64 (j9 ps k).eQ,.own o' 0 (iv s l (j9 ps k)).length]:=by
    cases fi with
    |none=>exact absurd rfl (Xq rfl _ EY)
    |some j=>
     obtain⟨v,hv⟩:=Fh j rfl
     have e:=Qm hE.nodup (List.mem_of_getElem? hv) EY
     subst e
     exact⟨j,rfl,by rw[List.getElem?_map,hv];rfl⟩
   have LD:=Em (B:=ee s l) (m:=s.aD.aj.length) jg
   have pN:IC (ee s l) (j9 ps k) s.aD.aj.length=(iv s l (j9 ps k)).map fun t=>(⟨j9 ps k,t⟩:aa):=Cw _ _ _
   rw[pN,<-FV]at LD
   have Pd:(iv s l (j9 ps k)).length<=160:=by
    have:=uf (ee s l) (j9 ps k) s.aD.aj.length
    unfold iv;omega
   generalize j9 ps k=q at Aq RI EY TG iK LD Pd
   generalize iv s l q=us at RI EY TG LD Pd
   generalize tR (ee s l) s.aD.aj.length (ps.take k)=L at a3 bl LD
   (try((repeat(revert N;apply Pn.out));refine wk (tw @a15 (tw @a0 (tw @Sw (tw @Po (tw @hk (tw @As (tw @vao (tw @iK (tw @RH (tw @vac (tw @YU (tw @vaO (tw @Aq (tw @RI @ad.eq_1)))))))))))))) ?_;(repeat(apply Pn.mk;intro N hN))))
   refine cm (fun n env st=>∃j:Nat,n=(us.length)-j/\j<=(us.length)/\env 26=.int .i64 (j:Int)/\st.get ⟨210004002,st_a.next+1⟩=some ⟨true,2,[ad q]⟩/\(st_a.next+2<=st.next/\(∀x:Id,x.bq<x2->st.get x=g2 x)/\Iu 210008005 x2 (L++kj q us j) (env 3) st.get st.next)) (us.length) ⟨0,ae,ae,sl (tw @a15 (tw @a0 (tw @Sw (tw @Po @ad.eq_1)))),sl (tw @a15 (tw @a0 (tw @Sw (tw @Po @ad.eq_1)))),by(try dsimp only);exact⟨ae,fun x hx=>by
    have h2:=bZ (i:=x) (n:=st_a.next) ae
    have h3:=eF x hx
    simp only[go_sem, ↓reduceIte,Nat.reduceEqDiff,Nat.reduceAdd,Nat.reduceSub,Nat.reduceLeDiff,reduceCtorEq,h2,h3],by
    rw[show kj q us 0=[]from rfl,List.append_nil]
    exact a3.frame (sd @Nat.zero_add) ae fun x hx=>by
     have h2:=bZ hx
     simp only[go_sem, ↓reduceIte,Nat.reduceEqDiff,Nat.reduceAdd,Nat.reduceSub,Nat.reduceLeDiff,reduceCtorEq,h2]⟩⟩ ?_
   rintro n_b env_b st_b ⟨j,rfl,ble,b26,bg0,bI0⟩ eS
   have b0:=eS 0 (by kernel_rfl);have b5:=eS 5 (by kernel_rfl);have yp:=eS 13 (by kernel_rfl);have SC:=eS 14 (by kernel_rfl);have SD:=eS 15 (by kernel_rfl);have SE:=eS 24 (by kernel_rfl);have SF:=eS 25 (by kernel_rfl)
   simp only[go_sem, ↓reduceIte,Nat.reduceEqDiff,Nat.reduceAdd,Nat.reduceSub,Nat.reduceLeDiff,reduceCtorEq,a15,a0,Sw,Po,ad]at b0 b5 yp SC SD SE SF
   clear eS
   obtain⟨bn,eS,b3⟩:=bI0
   have Zr:=bZ (i:=⟨210004002,st_a.next+1⟩) (n:=st_b.next) aH
   have kD:(L++kj q us j).length<=16777214:=by
    have:(kj q us j).length<=us.length:=by unfold kj;simp;omega
    rw[List.length_append];omega
   by_cases hj:(j:Int)<(us.length:Int)
   ·have fb:∀{e:Env} {gg:Rows} {nx:Nat},(e 26=.int .i64 (IntKind.i64.wrap ((j:Int)+1)))->(gg ⟨210004002,st_a.next+1⟩=some ⟨true,2,[ad q]⟩)->(st_a.next+2<=nx/\(∀x:Id,x.bq<x2->gg x=g2 x)/\Iu 210008005 x2 (L++kj q us (j+1)) (e 3) gg nx)->∃m0,m0<(us.length)-j/\∃j:Nat,m0=(us.length)-j/\j<=(us.length)/\e 26=.int .i64 (j:Int)/\gg ⟨210004002,st_a.next+1⟩=some ⟨true,2,[ad q]⟩/\(st_a.next+2<=nx/\(∀x:Id,x.bq<x2->gg x=g2 x)/\Iu 210008005 x2 (L++kj q us j) (e 3) gg nx):=fun x1 x2 x3=>⟨_,ae,j+1,rfl,ae,(by rw[x1,bf ae]),x2,x3⟩
    have pQ:j<us.length:=ae
    have oM:=BV (p:=q) pQ
    have LG:=Jc pQ
    have Xh:=(eS o' ae).trans ((Ht o' ho'v).trans TG)
    have Yc:=bZ (i:=o') (n:=st_b.next) ae
    have P0:(us.map aM).length=us.length:=by simp
    have ui:L++kj q us (j+1)=(L++kj q us j)++[⟨q,us.getD j 0⟩]:=by rw[oM,List.append_assoc]
    generalize us.getD j 0=t at LG ui
    generalize L++kj q us j=M at b3 kD ui
    have qY:(M++[(⟨q,t⟩:aa)]).length=M.length+1:=by simp
    have ly:(M++[(⟨q,t⟩:aa)]).map ab=M.map ab++[[.int .i64 q.eV,.int .i64 q.eQ,.int .i64 t]]:=by rw[List.map_append];rfl
    rcases b3 with⟨hM,b3⟩|⟨u,b3,hug,hum,huv,hul0,hus⟩
    ·subst hM
     (try((repeat(revert N;apply Pn.out));refine wk (tw @b26 (tw @bg0 (tw @b0 (tw @b5 (tw @yp (tw @SC (tw @SD (tw @SE (tw @SF (tw @hj (tw @LG (tw @Xh (tw @Yc (tw @P0 (tw @b3 (tw @Zr @ad.eq_1)))))))))))))))) ?_;(repeat(apply Pn.mk;intro N hN))))
     refine fb ?_ ?_ (by(try dsimp only);exact⟨ae,fun x hx=>by
      have h2:=bZ (i:=x) (n:=st_b.next) ae
      have h3:=eS x hx
      simp only[go_sem, ↓reduceIte,Nat.reduceEqDiff,Nat.reduceAdd,Nat.reduceSub,Nat.reduceLeDiff,reduceCtorEq,h2,h3],.inr ⟨⟨210008005,st_b.next+1+1⟩,by rw[ui,qY];simp only[go_sem, ↓reduceIte,Nat.reduceEqDiff,Nat.reduceAdd,Nat.reduceSub,Nat.reduceLeDiff,reduceCtorEq]<;>rfl,by rw[ui,ly];simp only[go_sem, ↓reduceIte,Nat.reduceEqDiff,Nat.reduceAdd,Nat.reduceSub,Nat.reduceLeDiff,reduceCtorEq]<;>rfl,aH,aH,by rw[ui,qY];omega,rfl⟩⟩)
     all_goals simp only[go_sem, ↓reduceIte,Nat.reduceEqDiff,Nat.reduceAdd,Nat.reduceSub,Nat.reduceLeDiff,reduceCtorEq,b26,bg0,b0,b5,yp,SC,SD,SE,SF,Zr,ad]
    ·have vub:=bZ huv
     have fc:(M.map ab).length=M.length:=by simp
     have hM1:M.length<=16777215:=ae
     have ux:=iG hus (b:=210004002) (v:=st_a.next+1) (by decide)
     (try((repeat(revert N;apply Pn.out));refine wk (tw @b26 (tw @bg0 (tw @b0 (tw @b5 (tw @yp (tw @SC (tw @SD (tw @SE (tw @SF (tw @hj (tw @LG (tw @Xh (tw @Yc (tw @P0 (tw @b3 (tw @hug (tw @vub (tw @fc (tw @hM1 (tw @Zr (tw @ux @ad.eq_1))))))))))))))))))))) ?_;(repeat(apply Pn.mk;intro N hN))))
     refine fb ?_ ?_ (by(try dsimp only);exact⟨ae,fun x hx=>by
      have h2:=bZ (i:=x) (n:=st_b.next) ae
      have h4:=ei (a:=x) (b:=u) ae
      have h3:=eS x hx
      simp only[go_sem, ↓reduceIte,Nat.reduceEqDiff,Nat.reduceAdd,Nat.reduceSub,Nat.reduceLeDiff,reduceCtorEq,h2,h3,h4],.inr ⟨⟨210008005,st_b.next+1+1⟩,by rw[ui,qY];simp only[go_sem, ↓reduceIte,Nat.reduceEqDiff,Nat.reduceAdd,Nat.reduceSub,Nat.reduceLeDiff,reduceCtorEq]<;>rfl,by rw[ui,ly];simp only[go_sem, ↓reduceIte,Nat.reduceEqDiff,Nat.reduceAdd,Nat.reduceSub,Nat.reduceLeDiff,reduceCtorEq]<;>rfl,aH,aH,by rw[ui,qY];omega,rfl⟩⟩)
     all_goals simp only[go_sem, ↓reduceIte,Nat.reduceEqDiff,Nat.reduceAdd,Nat.reduceSub,Nat.reduceLeDiff,reduceCtorEq,b26,bg0,b0,b5,yp,SC,SD,SE,SF,Zr,ux,ad]
   ·have hju:j=us.length:=ae
    subst hju
    (try((repeat(revert N;apply Pn.out));refine wk (tw @b26 (tw @bg0 (tw @b0 (tw @b5 (tw @yp (tw @SC (tw @SD (tw @SE (tw @SF @hj))))))))) ?_;(repeat(apply Pn.mk;intro N hN))))
    exact eh (sd (tw @a15 (tw @a0 (tw @Sw (tw @Po (tw @b26 (tw @bg0 (tw @b0 (tw @b5 (tw @yp (tw @SC (tw @SD (tw @SE @SF))))))))))))) (by(try dsimp only);exact⟨ae,fun x hx=>eS x hx,by
     rw[LD]
     exact b3.frame (sd @Nat.zero_add) ae fun x hx=>rfl⟩)
  ·have oy:k=ps.length:=ae
   subst oy
   rw[List.take_length]at a3
   (try((repeat(revert N;apply Pn.out));refine wk (tw @a15 (tw @a0 (tw @Sw (tw @Po @hk)))) ?_;(repeat(apply Pn.mk;intro N hN))))
   exact eo (.inl rfl) (vs:=[env_a 3]) (sd @Nat.zero_add) ⟨aH,fun x hx=>(eF x ae).trans (Ht x hx),by
    rcases a3 with h1|⟨u,h1,h2,h3,h4,h5⟩
    ·exact .inl h1
    ·exact .inr ⟨u,h1,h2,ae,aH,h5⟩⟩
theorem Db (s:au) (hP:mj s) (l:List aa) (hA:gx s.aD l):aw Tryz.prog 142 [.ef (ck s),.ef [.sl (l.map ab)]] (.sl ((tR (ee s l) s.aD.aj.length (jK l)).map ab)):=by
 refine aw.body fx rfl fun fD n0=>?_
 clear fD
 have hS:=hP.set
 have GB:=hS.uW
 have AM:=hA.1.pL
 have hlen:=mC l l.length
 have qY:fj l l.length=jK l:=rfl
 rw[qY]at hlen
 have hnp:∀x∈jK l,Ee l x:=fun x hx=>(BQ l x).1 hx
 have hnv:=fun σ=>KH l hA.1 σ
 clear qY
 generalize jK l=ps at hlen hnp hnv ⊢
 (try((repeat(revert N;apply Pn.out));refine wk @Nat.zero_add ?_;(repeat(apply Pn.mk;intro N hN))))
 refine .inr (ay _ _ _ _ _ (fun r σ1 hq=>?_) (hnv _))
 obtain⟨g1,x1⟩:=σ1
 obtain⟨o0,rfl,q1,q2,q3,q4,q5⟩:=hq
 (try dsimp only at q1 q2 q3 q4 q5)
 have q6:=q5 ⟨142001000,n0+1⟩ aH trivial
 simp only[go_sem, ↓reduceIte,Nat.reduceEqDiff,Nat.reduceAdd,Nat.reduceSub,Nat.reduceLeDiff,reduceCtorEq]at q6
 have on:n0+2<=o0.bq:=by rcases q4 with h|h;omega;exact absurd trivial h
 clear q4 q5
 apply hN
 clear hN N
 (try((repeat(revert N;apply Pn.out));refine wk (tw @q1 @q6) ?_;(repeat(apply Pn.mk;intro N hN))))
 refine cm (fun n env st=>∃k:Nat,n=(ps.length)-k/\k<=(ps.length)/\env 7=.int .i64 (k:Int)/\st.get o0=some ⟨true,2,ps.map ad⟩/\(∃o:Id,env 5=.own o 0 (tR (ee s l) s.aD.aj.length (ps.take k)).length/\st.get o=some ⟨true,3,(tR (ee s l) s.aD.aj.length (ps.take k)).map ab⟩/\o.bq<st.next/\o0.bq<st.next/\o≠o0)) (ps.length) ⟨0,ae,ae,sl (tw @q1 @q6),sl (tw @q1 @q6),by(try dsimp only);exact⟨⟨142001000,n0+1⟩,sl @Nat.zero_add,sl @q6,aH,ae,fun e=>by rw[<-e]at on;(try dsimp only at on);omega⟩⟩ ?_
 rintro n_a env_a st_a ⟨k,rfl,ale,a7,ag0,qN⟩ eF
 have a0:=eF 0 (by kernel_rfl);have a1:=eF 1 (by kernel_rfl);have a6:=eF 6 (by kernel_rfl)
 simp only[go_sem, ↓reduceIte,Nat.reduceEqDiff,Nat.reduceAdd,Nat.reduceSub,Nat.reduceLeDiff,reduceCtorEq,q1,q6]at a0 a1 a6
 clear eF
 obtain⟨o,a5,ao,Ly,Rr,ZL⟩:=qN
 have vo:=bZ Ly
 have v0:=bZ Rr
 have hoo:=eq_false ZL
 have hoo2:=eq_false (fun e:o0=o=>ZL e.symm)
 have hB:(tR (ee s l) s.aD.aj.length (ps.take k)).length<=10000*160:=by
  have h2:=xL (ee s l) s.aD.aj.length (ps.take k)
  have h3:(ps.take k).length*s.aD.aj.length<=10000*160:=Nat.mul_le_mul (by rw[List.length_take];omega) GB
  omega
 by_cases hk:(k:Int)<(ps.length:Int)
 ·have eh:∀{e:Env} {gg:Rows} {nx:Nat},(e 7=.int .i64 (IntKind.i64.wrap ((k:Int)+1)))->(gg o0=some ⟨true,2,ps.map ad⟩)->(∃o:Id,e 5=.own o 0 (tR (ee s l) s.aD.aj.length (ps.take (k+1))).length/\gg o=some ⟨true,3,(tR (ee s l) s.aD.aj.length (ps.take (k+1))).map ab⟩/\o.bq<nx/\o0.bq<nx/\o≠o0)->∃m0,m0<(ps.length)-k/\∃k:Nat,m0=(ps.length)-k/\k<=(ps.length)/\e 7=.int .i64 (k:Int)/\gg o0=some ⟨true,2,ps.map ad⟩/\(∃o:Id,e 5=.own o 0 (tR (ee s l) s.aD.aj.length (ps.take k)).length/\gg o=some ⟨true,3,(tR (ee s l) s.aD.aj.length (ps.take k)).map ab⟩/\o.bq<nx/\o0.bq<nx/\o≠o0):=fun x1 x2 x3=>⟨_,ae,k+1,rfl,ae,(by rw[x1,bf ae]),x2,x3⟩
  have jg:k<ps.length:=ae
  have iy:=xj jg
  have tf:=hnp _ (Ds jg)
  obtain⟨hx,hy⟩:=oR tf.1
  have pw:=(Qq s.aD hS l hA (j9 ps k) hx hy s.aE).cut mixed (.ptr _ [.sl (s.bH.aj.map ab),.int .i64 s.aE] (.same _ (.same _ (.same _ .nil))))
  have W9:mb (Cu s.aD l s.aE) (j9 ps k) s.aD.aj.length=iv s l (j9 ps k):=qT (fun t=>(Pr tf hA t).symm) _
  rw[W9]at pw
  have LD:=Em (B:=ee s l) (m:=s.aD.aj.length) jg
  have pN:IC (ee s l) (j9 ps k) s.aD.aj.length=(iv s l (j9 ps k)).map fun t=>(⟨j9 ps k,t⟩:aa):=Cw _ _ _
  rw[pN,<-FV]at LD
  have Pd:(iv s l (j9 ps k)).length<=160:=by
   have:=uf (ee s l) (j9 ps k) s.aD.aj.length
   unfold iv;omega
  have P0:(ps.map ad).length=ps.length:=by simp
  generalize j9 ps k=q at pw LD iy Pd
  generalize iv s l q=us at pw LD Pd
  generalize tR (ee s l) s.aD.aj.length (ps.take k)=L at a5 ao hB LD
  rw[ah]at pw
  (have zF:=tw @a7 (tw @ag0 (tw @a0 (tw @a1 (tw @a6 (tw @hk (tw @iy (tw @v0 (tw @P0 (tw @ck.eq_1 @ad.eq_1)))))))));(repeat(first|((repeat(revert N;apply Pn.out));refine wk zF ?_;(repeat(apply Pn.mk;intro N hN)))|((try apply Or.inl);refine⟨_,aw.x (pw) (sd zF),?_⟩;apply hN;clear hN N)));try clear zF)
  refine cm (fun n env st=>∃j:Nat,n=(us.length)-j/\j<=(us.length)/\env 9=.int .i64 (j:Int)/\st.get o0=some ⟨true,2,ps.map ad⟩/\(∃o:Id,env 5=.own o 0 (L++kj q us j).length/\st.get o=some ⟨true,3,(L++kj q us j).map ab⟩/\o.bq<st.next/\o0.bq<st.next/\o≠o0)) (us.length) ⟨0,ae,ae,sl (tw @a7 (tw @ag0 (tw @a0 (tw @a1 @a6)))),sl (tw @a7 (tw @ag0 (tw @a0 (tw @a1 @a6)))),by(try dsimp only);exact⟨o,by rw[show kj q us 0=[]from rfl,List.append_nil];simp only[go_sem, ↓reduceIte,Nat.reduceEqDiff,Nat.reduceAdd,Nat.reduceSub,Nat.reduceLeDiff,reduceCtorEq,a5],by rw[show kj q us 0=[]from rfl,List.append_nil];simp only[go_sem, ↓reduceIte,Nat.reduceEqDiff,Nat.reduceAdd,Nat.reduceSub,Nat.reduceLeDiff,reduceCtorEq,ao,vo],ae,ae,ZL⟩⟩ ?_
  rintro n_b env_b st_b ⟨j,rfl,ble,b9,bg0,bI0⟩ eS
  have b0:=eS 0 (by kernel_rfl);have b1:=eS 1 (by kernel_rfl);have b6:=eS 6 (by kernel_rfl);have b7:=eS 7 (by kernel_rfl);have b8:=eS 8 (by kernel_rfl)
  simp only[go_sem, ↓reduceIte,Nat.reduceEqDiff,Nat.reduceAdd,Nat.reduceSub,Nat.reduceLeDiff,reduceCtorEq,a7,ag0,a0,a1,a6]at b0 b1 b6 b7 b8
  clear eS
  obtain⟨u,b5,bu,buv,Rt,ZR⟩:=bI0
  have kD:(L++kj q us j).length<=16777215:=by
   have:(kj q us j).length<=us.length:=by unfold kj;simp;omega
   rw[List.length_append];omega
  have vu:=bZ buv
  have v0b:=bZ Rt
  have hou:=eq_false ZR
  have Xu:=eq_false (fun e:o0=u=>ZR e.symm)
  by_cases hj:(j:Int)<(us.length:Int)
  ·have fb:∀{e:Env} {gg:Rows} {nx:Nat},(e 9=.int .i64 (IntKind.i64.wrap ((j:Int)+1)))->(gg o0=some ⟨true,2,ps.map ad⟩)->(∃o:Id,e 5=.own o 0 (L++kj q us (j+1)).length/\gg o=some ⟨true,3,(L++kj q us (j+1)).map ab⟩/\o.bq<nx/\o0.bq<nx/\o≠o0)->∃m0,m0<(us.length)-j/\∃j:Nat,m0=(us.length)-j/\j<=(us.length)/\e 9=.int .i64 (j:Int)/\gg o0=some ⟨true,2,ps.map ad⟩/\(∃o:Id,e 5=.own o 0 (L++kj q us j).length/\gg o=some ⟨true,3,(L++kj q us j).map ab⟩/\o.bq<nx/\o0.bq<nx/\o≠o0):=fun x1 x2 x3=>⟨_,ae,j+1,rfl,ae,(by rw[x1,bf ae]),x2,x3⟩
   have pQ:j<us.length:=ae
   have oM:=BV (p:=q) pQ
   have LG:=Jc pQ
   have ui:L++kj q us (j+1)=(L++kj q us j)++[⟨q,us.getD j 0⟩]:=by rw[oM,List.append_assoc]
   generalize us.getD j 0=t at LG ui
   generalize L++kj q us j=M at b5 bu kD ui
   have qY:(M++[(⟨q,t⟩:aa)]).length=M.length+1:=by simp
   have ly:(M++[(⟨q,t⟩:aa)]).map ab=M.map ab++[[.int .i64 q.eV,.int .i64 q.eQ,.int .i64 t]]:=by rw[List.map_append];rfl
   have fc:(M.map ab).length=M.length:=by simp
   have hmu:(us.map aM).length=us.length:=by simp
   (try((repeat(revert N;apply Pn.out));refine wk (tw @b9 (tw @bg0 (tw @b0 (tw @b1 (tw @b6 (tw @b7 (tw @b8 (tw @b5 (tw @bu (tw @hj (tw @hk (tw @LG (tw @iy (tw @vu (tw @v0b (tw @hou (tw @Xu (tw @P0 (tw @fc (tw @hmu (tw @kD @ad.eq_1))))))))))))))))))))) ?_;(repeat(apply Pn.mk;intro N hN))))
   refine fb ?_ ?_ (by(try dsimp only);exact⟨⟨142010011,st_b.next+1⟩,by rw[ui,qY];simp only[go_sem, ↓reduceIte,Nat.reduceEqDiff,Nat.reduceAdd,Nat.reduceSub,Nat.reduceLeDiff,reduceCtorEq]<;>rfl,by rw[ui,ly];simp only[go_sem, ↓reduceIte,Nat.reduceEqDiff,Nat.reduceAdd,Nat.reduceSub,Nat.reduceLeDiff,reduceCtorEq]<;>rfl,aH,aH,fun e=>by rw[<-e]at Rt;(try dsimp only at Rt);omega⟩)
   all_goals simp only[go_sem, ↓reduceIte,Nat.reduceEqDiff,Nat.reduceAdd,Nat.reduceSub,Nat.reduceLeDiff,reduceCtorEq,b9,bg0,b0,b1,b6,b7,b8,v0b,Xu]
  ·have hju:j=us.length:=ae
   subst hju
   (try((repeat(revert N;apply Pn.out));refine wk (tw @b9 (tw @bg0 (tw @b0 (tw @b1 (tw @b6 (tw @b7 (tw @b8 @hj))))))) ?_;(repeat(apply Pn.mk;intro N hN))))
   refine eh ?_ ?_ (by(try dsimp only);exact⟨u,by rw[LD];simp only[go_sem, ↓reduceIte,Nat.reduceEqDiff,Nat.reduceAdd,Nat.reduceSub,Nat.reduceLeDiff,reduceCtorEq,b5],by rw[LD];simp only[go_sem, ↓reduceIte,Nat.reduceEqDiff,Nat.reduceAdd,Nat.reduceSub,Nat.reduceLeDiff,reduceCtorEq,bu],ae,ae,ZR⟩)
   all_goals simp only[go_sem, ↓reduceIte,Nat.reduceEqDiff,Nat.reduceAdd,Nat.reduceSub,Nat.reduceLeDiff,reduceCtorEq,a7,ag0,a0,a1,a6,b9,bg0,b0,b1,b6,b7,b8]
 ·have oy:k=ps.length:=ae
  subst oy
  rw[List.take_length]at a5 ao
  (try((repeat(revert N;apply Pn.out));refine wk (tw @a7 (tw @ag0 (tw @a0 (tw @a1 (tw @a6 (tw @hk @a5)))))) ?_;(repeat(apply Pn.mk;intro N hN))))
  exact qE (.inl rfl) (vs:=[.own o 0 (tR (ee s l) s.aD.aj.length ps).length]) (sd @a5) (by
   simp only[hZ]
   exact eT (e:=ab) (n:=5) ao rfl fun x=>Rx _ 4 x)
theorem Cx {B:ai->Int->Bool} {p:ai}:∀{t:Nat} {x:aa},x∈IC B p t->∃k:Nat,k<t/\x=⟨p,k⟩/\B p k=true
 |0,x,h=>by simp[IC]at h
 |t+1,x,h=>by
  rw[IC]at h
  split at h
  ·rename_i hb
   rcases List.mem_append.1 h with h|h
   ·obtain⟨k,hk,h1⟩:=Cx h
    exact⟨k,ae,h1⟩
   ·exact⟨t,ae,by simpa using h,hb⟩
  ·obtain⟨k,hk,h1⟩:=Cx h
   exact⟨k,ae,h1⟩
theorem Ps {B:ai->Int->Bool} {m:Nat} {ps:List ai} {x:aa} (h:x∈tR B m ps):x.aI∈ps/\∃k:Nat,k<m/\x.aY=k/\B x.aI x.aY=true:=by
 obtain⟨p,hp,hx⟩:=List.mem_flatMap.1 h
 obtain⟨k,hk,rfl,hb⟩:=Cx hx
 exact⟨hp,k,hk,rfl,hb⟩
noncomputable def kJ (s:au) (l:List aa):List aa:=tR (ee s l) s.aD.aj.length (jK l)
theorem NM {s:au} {l:List aa} (hS:gy s.aD) (hA:gx s.aD l):(kJ s l).length<=320000:=by
 have h1:=xL (ee s l) s.aD.aj.length (jK l)
 have h2:(jK l).length<=l.length*4:=mC l l.length
 have h3:=hA.1.pL
 have h4:=hS.uW
 have h5:(jK l).length*s.aD.aj.length<=2000*160:=Nat.mul_le_mul ae h4
 unfold kJ;omega
def tH (dX:List Int) (d n:Nat):Nat:=if dX.length=0 then 0 else(dX.getD (d % dX.length) 0).toNat % n
theorem uP {dX:List Int} {d n:Nat} (h:0<n):tH dX d n<n:=by
 unfold tH
 split
 ·exact h
 ·exact Nat.mod_lt _ h
noncomputable def rQ (s:au) (dX:List Int) (steps:Nat):Nat->List aa->Option (List aa)
 |0,es=>some es
 |f+1,es=>if (kJ s (dn s es es.length)).length=0 then some es else if steps<=es.length then some es else if 500<=(dn s es es.length).length then none else rQ s dX steps f (es++[aA (kJ s (dn s es es.length)) (tH dX es.length (kJ s (dn s es es.length)).length)])
theorem uH {s:au} {es ds:List aa} {i:Nat} (h:i<=es.length):dn s (es++ds) i=dn s es i:=by
 unfold dn
 rw[List.take_append_of_le_length h]
theorem F0 (s:au) (es:List aa) (x:aa):dn s (es++[x]) (es.length+1)=gn (dn s es es.length) x:=by
 rw[mc s (es++[x]) (by simp),uH (Nat.le_refl _)]
 congr 1
 simp[aA]
theorem NT {es ds:List aa} {i:Nat} (h:i<es.length):aA (es++ds) i=aA es i:=by
 simp[aA,List.getD_eq_getElem?_getD,List.getElem?_append_left h]
theorem zJ {s:au} {es ds:List aa} {i:Nat} (h:i<es.length):gD s (es++ds) i=gD s es i:=by
 unfold gD Ji
 rw[uH ae,NT h]
theorem FW {s:au} {l:List aa} {x:aa} (h:x∈kJ s l):eE s.aD x.aY=true/\ee s l x.aI x.aY=true:=by
 obtain⟨_,k,hk,e,hf⟩:=Ps h
 refine⟨?_,hf⟩
 rw[e]
 exact jU ae
def iS (s:au) (es:List aa):Prop:=∀j,j<es.length->gD s es j=true
theorem iS.nil (s:au):iS s []:=fun j hj=>by simp at hj
theorem iS.add {s:au} {es:List aa} (h:iS s es) {x:aa} (hx:x∈kJ s (dn s es es.length)) (hl:(dn s es es.length).length<500):iS s (es++[x]):=fun j hj=>by
 rw[List.length_append,List.length_singleton]at hj
 by_cases h0:j<es.length
 ·rw[zJ h0];exact h j h0
 ·have e:j=es.length:=ae
  subst e
  obtain⟨h1,h2⟩:=FW hx
  unfold gD Ji
  rw[uH (Nat.le_refl _),show aA (es++[x]) es.length=x by simp[aA],h1,h2]
  simpa using hl
theorem oc (s:au) (es:List aa):∀i,i<=es.length->(dn s es i).length=s.bH.aj.length+i
 |0,_=>rfl
 |i+1,hi=>by rw[mc s es ae,kn,oc s es i ae];rfl
theorem Bz {s:au} {dX:List Int} {steps:Nat}:∀(f:Nat) (es OU:List aa),iS s es->es.length<=steps->rQ s dX steps f es=some OU->iS s OU/\OU.length<=steps
 |0,es,OU,h,hl,he=>by
  rw[rQ]at he;injection he with he;subst he
  exact⟨h,hl⟩
 |f+1,es,OU,h,hl,he=>by
  rw[rQ]at he
  split at he
  ·injection he with he;subst he;exact⟨h,hl⟩
  ·split at he
   ·injection he with he;subst he;exact⟨h,hl⟩
   ·split at he
    ·cases he
    ·refine Bz f _ _ (h.add (fH (uP ae)) ae) ?_ he
     rw[List.length_append,List.length_singleton];omega
noncomputable def qt (s:au) (dX:List Int) (steps:Nat):Option (List aa):=rQ s dX steps 501 []
theorem Kd {s:au} {dX:List Int} {steps:Nat} {es:List aa} (h:qt s dX steps=some es):iS s es/\es.length<=steps:=Bz _ _ _ (iS.nil s) (Nat.zero_le _) h
noncomputable def D5 (s:au) (es:List aa):Int×Int:=if j8 s then(if es.length<=500 then Wb s es else(0,2))else(0,1)
noncomputable def KZ (s:au) (es:List aa):AV:=if (D5 s es).2=0 then .sl ((dn s es es.length).map ab)else .bj
def p2 (d:Nat):Int:=2 ^ d
noncomputable def Uh (s:au) (l:List aa) (x:aa):Nat->Int
 |0=>0
 |d+1=>if 0<=eM l (bc x.aI d)/\0<gh s.aD x.aY d (eM l (bc x.aI d))then Uh s l x d+p2 d else Uh s l x d
noncomputable def mskL (s:au) (es:List aa) (i:Nat):List Int:=(List.range i).map fun j=>Uh s (dn s es j) (aA es j) 4
noncomputable def sumL (s:au) (es:List aa) (i:Nat):List Int:=(List.range i).map fun j=>jE s.aD (eM (dn s es j)) (aA es j).aI (aA es j).aY
def PyL (s:au) (es:List aa) (i:Nat) (X:Id) (e7 e8:AV) (g:Rows) (n:Nat):Prop:=∃o u v:Id,g X=some ⟨true,1,[[.own o 0 (dn s es i).length]]⟩/\g o=some ⟨true,3,(dn s es i).map ab⟩/\e7=.own u 0 i/\g u=some ⟨true,1,(mskL s es i).map aM⟩/\e8=.own v 0 i/\g v=some ⟨true,1,(sumL s es i).map aM⟩/\X.bq<n/\o.bq<n/\u.bq<n/\v.bq<n/\o≠X/\u≠X/\v≠X/\o≠u/\o≠v/\u≠v
theorem wD {s:au} {es:List aa} {i:Nat} (hA:gx s.aD (dn s es i)) (hf:ee s (dn s es i) (aA es i).aI (aA es i).aY=true):dm (dn s es i) (aA es i).aI<0:=
 (Ct hA _).1 (by simp[ee]at hf;exact hf.1.2)
theorem rl {s:au} (hP:mj s) {es:List aa}:∀i,i<=es.length->(∀j,j<i->gD s es j=true)->pg s (es.take i,dn s es i)
 |0,_,_=>⟨fun q=>by simp[dn],by simp[dn]⟩
 |i+1,hi,h=>by
  have ih:=rl hP (es:=es) i ae fun j hj=>h j ae
  have hg:=h i ae
  rw[gD,Bool.and_eq_true,Ji,Bool.and_eq_true]at hg
  have hA:=jL hP (es:=es) i ae fun j hj=>h j ae
  have:=ih.put (x:=aA es i) (wD hA hg.1.2)
  rw[mc s es ae,uV ae]
  exact this
def GO (s:au) (es:List aa) (σ:ax) (r:AV) (σ':ax):Prop:=
 ∃v,r=.fP [.agg [v],.int .i64 (D5 s es).1,.int .i64 (D5 s es).2]/\(((D5 s es).2≠0/\v=.bj)∨((D5 s es).2=0/\∃o:Id,v=.own o 0 (dn s es es.length).length/\σ'.get o=some ⟨true,3,(dn s es es.length).map ab⟩/\σ.next<=o.bq/\o.bq<σ'.next))/\Kept σ σ'
theorem yh (s:au) (es:List aa) (hn:im s.aD) (hm:sf s) (hl:es.length<=1048576) (σ:ax):Call Tryz.prog 35 [.agg (ck s),.sl (es.map ab)] σ (GO s es σ):=by
 have h1:=ns CA s hn hm.s.g hm.s.t hm.s.s hm.a
 refine eZ fx rfl fun fD=>?_
 clear fD
 cases h0:j8 s
 ·have hr:D5 s es=(0,1):=by rw[D5,h0];rfl
  rw[h0]at h1
  rw[ck]at h1 ⊢
  (repeat(first|((repeat(revert N;apply Pn.out));refine wk @Nat.zero_add ?_;(repeat(apply Pn.mk;intro N hN)))|((try apply Or.inl);refine⟨_,aw.x (h1) (sd @Nat.zero_add),?_⟩;apply hN;clear hN N)))
  exact eo (.inl rfl) (vs:=[.agg [.bj],.int .i64 0,.int .i64 1]) (sd @Nat.zero_add) (by
   rw[GO,hr]
   exact⟨.bj,rfl,.inl ⟨by decide,rfl⟩,aH,fun x hx=>by have h:=bZ hx;simp only[go_sem, ↓reduceIte,Nat.reduceEqDiff,Nat.reduceAdd,Nat.reduceSub,Nat.reduceLeDiff,reduceCtorEq,h]⟩)
 rw[h0]at h1
 have hP:=mN.1 h0
 by_cases h5:es.length<=500
 ·have hr:D5 s es=Wb s es:=by rw[D5,h0,if_pos rfl,if_pos h5]
  have hd:decide ((500:Int)<(es.length:Int))=false:=decide_eq_false ae
  have Nb:=hP.o8.1.pL
  have hso:=hP.some
  have hc:=fun σ=>uC s hP.set s.bH.aj hP.o8 σ
  rw[ck]at h1 hc ⊢
  (repeat(first|((repeat(revert N;apply Pn.out));refine wk @hd ?_;(repeat(apply Pn.mk;intro N hN)))|((try apply Or.inl);refine⟨_,aw.x (h1) (sd @hd),?_⟩;apply hN;clear hN N)))
  refine .inr (ay _ _ _ _ _ (fun r σ1 hq=>?_) (hc _))
  obtain⟨g1,x1⟩:=σ1
  obtain⟨c,T,O,rfl,hC,MR,C1,EX,qv,iO⟩:=hq
  (try dsimp only at hC MR C1 EX qv iO)
  have k2:=iO ⟨35000000,σ.next⟩ aH
  have k4:=iO ⟨35000001,σ.next⟩ aH
  simp only[go_sem, ↓reduceIte,Nat.reduceEqDiff,Nat.reduceAdd,Nat.reduceSub,Nat.reduceLeDiff,reduceCtorEq]at k2 k4
  have hcx:=hC.cv
  have hTx:=hC.tv
  have hOx:=hC.ov
  have hfr0:∀x:Id,x.bq<σ.next->g1 x=σ.get x:=fun x hx=>by
   have h2:=iO x aH
   have h3:=bZ hx
   simp only[go_sem, ↓reduceIte,Nat.reduceEqDiff,Nat.reduceAdd,Nat.reduceSub,Nat.reduceLeDiff,reduceCtorEq,h3]at h2
   exact h2
  clear hc iO
  apply hN
  clear hN N
  (try((repeat(revert N;apply Pn.out));refine wk (tw @k2 @k4) ?_;(repeat(apply Pn.mk;intro N hN))))
  refine cm (fun n env st=>∃i:Nat,n=(es.length)-i/\i<=(es.length)/\env 26=.int .i64 (i:Int)/\st.get ⟨35000000,σ.next⟩=some ⟨true,4,[[.sl (s.aD.bh.map dZ),.sl (s.aD.aj.map dx),.sl (s.bH.aj.map ab),.int .i64 s.aE]]⟩/\st.get ⟨35000001,σ.next⟩=some ⟨true,1,[[.bj]]⟩/\(∀j:Nat,j<i->gD s es j=true)/\(x1<=st.next/\jx st.get st.next c T O s (s.bH.aj++es.take i)/\∀x:Id,x.bq<σ.next->st.get x=σ.get x)) (es.length) ⟨0,ae,ae,sl (tw @k2 @k4),sl (tw @k2 @k4),sl (tw @k2 @k4),fun _ h=>absurd h (Nat.not_lt_zero _),by(try dsimp only);exact⟨ae,by
   have:=hC.frame (g':=g1) (n':=x1+1+1) ae fun x hx=>rfl
   simp only[go_sem, ↓reduceIte,Nat.reduceEqDiff,Nat.reduceAdd,Nat.reduceSub,Nat.reduceLeDiff,reduceCtorEq]
   simpa using this,fun x hx=>by have h2:=hfr0 x hx;simp only[go_sem, ↓reduceIte,Nat.reduceEqDiff,Nat.reduceAdd,Nat.reduceSub,Nat.reduceLeDiff,reduceCtorEq,h2]⟩⟩ ?_
  rintro n_a env_a st_a ⟨i,rfl,ale,a26,ag0,ag1,nJ,qN⟩ eF
  have a1:=eF 1 (by kernel_rfl);have a2:=eF 2 (by kernel_rfl);have a4:=eF 4 (by kernel_rfl);have a7:=eF 7 (by kernel_rfl);have a24:=eF 24 (by kernel_rfl);have a25:=eF 25 (by kernel_rfl)
  simp only[go_sem, ↓reduceIte,Nat.reduceEqDiff,Nat.reduceAdd,Nat.reduceSub,Nat.reduceLeDiff,reduceCtorEq,k2,k4]at a1 a2 a4 a7 a24 a25
  clear eF
  obtain⟨an,aC,aK⟩:=qN
  have YD:=jL hP (es:=es) i ae nJ
  have Gt:=rl hP (es:=es) i ae nJ
  have Aq:=YD.1.pL
  have lU:=Gt.perm.length_eq
  have acv:=aC.cv
  have atv:=aC.tv
  have Ly:=aC.ov
  have nv:∀{x y:Id},x.bq<y.bq->x≠y:=fun h e=>by rw[e]at h;omega
  by_cases hi:(i:Int)<(es.length:Int)
  ·have eh:∀{e:Env} {gg:Rows} {nx:Nat},(e 26=.int .i64 (IntKind.i64.wrap ((i:Int)+1)))->(gg ⟨35000000,σ.next⟩=some ⟨true,4,[[.sl (s.aD.bh.map dZ),.sl (s.aD.aj.map dx),.sl (s.bH.aj.map ab),.int .i64 s.aE]]⟩)->(gg ⟨35000001,σ.next⟩=some ⟨true,1,[[.bj]]⟩)->(gD s es i=true)->(x1<=nx/\jx gg nx c T O s (s.bH.aj++es.take (i+1))/\∀x:Id,x.bq<σ.next->gg x=σ.get x)->∃m0,m0<(es.length)-i/\∃i:Nat,m0=(es.length)-i/\i<=(es.length)/\e 26=.int .i64 (i:Int)/\gg ⟨35000000,σ.next⟩=some ⟨true,4,[[.sl (s.aD.bh.map dZ),.sl (s.aD.aj.map dx),.sl (s.bH.aj.map ab),.int .i64 s.aE]]⟩/\gg ⟨35000001,σ.next⟩=some ⟨true,1,[[.bj]]⟩/\(∀j:Nat,j<i->gD s es j=true)/\(x1<=nx/\jx gg nx c T O s (s.bH.aj++es.take i)/\∀x:Id,x.bq<σ.next->gg x=σ.get x):=fun x1 x2 x3 x4 x5=>⟨_,ae,i+1,rfl,ae,(by rw[x1,bf ae]),x2,x3,(all_succ nJ x4),x5⟩
   have gV:i<es.length:=ae
   have jt:=fM gV
   have fc:(es.map ab).length=es.length:=by simp
   have V1:=Fv s.aD (aA es i).aY
   rw[ah]at V1
   cases ht:eE s.aD (aA es i).aY
   ·rw[ht]at V1
    have hB:Ji s es i=false:=by rw[Ji,ht];rfl
    have Ax:=zK gV nJ (by rw[gD,hB];rfl)
    rw[hB]at Ax
    (have zF:=tw @a26 (tw @ag0 (tw @ag1 (tw @a1 (tw @a2 (tw @a4 (tw @a7 (tw @a24 (tw @a25 (tw @hi (tw @jt (tw @fc @ab.eq_1)))))))))));(repeat(first|((repeat(revert N;apply Pn.out));refine wk zF ?_;(repeat(apply Pn.mk;intro N hN)))|((try apply Or.inl);refine⟨_,aw.x (V1) (sd zF),?_⟩;apply hN;clear hN N)));try clear zF)
    exact eo (.inl rfl) (vs:=[.agg [.bj],.int .i64 (i:Int),.int .i64 5]) (sd (tw @a26 (tw @ag0 (tw @ag1 (tw @a1 (tw @a2 (tw @a4 (tw @a7 (tw @a24 @a25))))))))) (by
     rw[GO,hr,Ax]
     exact⟨.bj,rfl,.inl ⟨by simp,rfl⟩,aH,fun x hx=>by
      have h:=bZ (i:=x) (n:=st_a.next) ae
      have h2:=bZ hx
      have h3:=aK x hx
      simp only[go_sem, ↓reduceIte,Nat.reduceEqDiff,Nat.reduceAdd,Nat.reduceSub,Nat.reduceLeDiff,reduceCtorEq,h,h2,h3]⟩)
   ·rw[ht]at V1
    have VO:∀y,0<=eM (s.bH.aj++es.take i) y->eE s.aD (eM (s.bH.aj++es.take i) y)=true:=fun y hy=>by
     rw[Gt.at_]at hy ⊢
     exact gy.Bg YD y hy
    (have zF:=tw @a26 (tw @ag0 (tw @ag1 (tw @a1 (tw @a2 (tw @a4 (tw @a7 (tw @a24 (tw @a25 (tw @hi (tw @jt (tw @fc @ab.eq_1)))))))))));(repeat(first|((repeat(revert N;apply Pn.out));refine wk zF ?_;(repeat(apply Pn.mk;intro N hN)))|((try apply Or.inl);refine⟨_,aw.x (V1) (sd zF),?_⟩;apply hN;clear hN N)));try clear zF)
    have kF:=Gt.fit (aA es i).aI (aA es i).aY
    (try dsimp only at kF)
    refine .inl ⟨_,CN (aC.xO.frame aH (by(have:=bZ aC.cv);simp only[go_sem, ↓reduceIte,Nat.reduceEqDiff,Nat.reduceAdd,Nat.reduceSub,Nat.reduceLeDiff,reduceCtorEq,this]) (by(have:=bZ aC.tv);simp only[go_sem, ↓reduceIte,Nat.reduceEqDiff,Nat.reduceAdd,Nat.reduceSub,Nat.reduceLeDiff,reduceCtorEq,this])) hP.set VO (aA es i).aI (aA es i).aY ht,?_⟩
    apply hN
    clear hN N
    have C6:Ji s es i=ee s (dn s es i) (aA es i).aI (aA es i).aY:=by rw[Ji,ht,Bool.true_and]
    cases hf:ee s (dn s es i) (aA es i).aI (aA es i).aY
    ·rw[hf]at kF C6
     have Ax:=zK gV nJ (by rw[gD,C6];rfl)
     rw[C6]at Ax
     (try((repeat(revert N;apply Pn.out));refine wk (tw @a26 (tw @ag0 (tw @ag1 (tw @a1 (tw @a2 (tw @a4 (tw @a7 (tw @a24 (tw @a25 (tw @kF @jt)))))))))) ?_;(repeat(apply Pn.mk;intro N hN))))
     exact eo (.inl rfl) (vs:=[.agg [.bj],.int .i64 (i:Int),.int .i64 5]) (sd (tw @a26 (tw @ag0 (tw @ag1 (tw @a1 (tw @a2 (tw @a4 (tw @a7 (tw @a24 @a25))))))))) (by
      rw[GO,hr,Ax]
      exact⟨.bj,rfl,.inl ⟨by simp,rfl⟩,aH,fun x hx=>by
       have h:=bZ (i:=x) (n:=st_a.next) ae
       have h2:=bZ hx
       have h3:=aK x hx
       simp only[go_sem, ↓reduceIte,Nat.reduceEqDiff,Nat.reduceAdd,Nat.reduceSub,Nat.reduceLeDiff,reduceCtorEq,h,h2,h3]⟩)
    ·rw[hf]at kF C6
     obtain⟨rws,Gz⟩:∃rws,s.bH.aj++es.take i=rws:=⟨_,rfl⟩
     have Gy:(rws.map ab).length=(dn s es i).length:=by rw[List.length_map,<-Gz];exact lU
     rw[Gz]at aC VO
     have rC:=aC.row
     have rT:=aC.tl
     have vC:=bZ (i:=c) (n:=st_a.next) ae
     have vT:=bZ (i:=T) (n:=st_a.next) ae
     have v0:=bZ (i:=⟨35000000,σ.next⟩) (n:=st_a.next) aH
     have v1:=bZ (i:=⟨35000001,σ.next⟩) (n:=st_a.next) aH
     by_cases h6:500<=(dn s es i).length
     ·have Ax:=zK gV nJ (by rw[gD,C6,Bool.true_and];exact decide_eq_false ae)
      rw[C6]at Ax
      have hd5:(500:Int)<=((dn s es i).length:Int):=ae
      (try((repeat(revert N;apply Pn.out));refine wk (tw @a26 (tw @ag0 (tw @ag1 (tw @a1 (tw @a2 (tw @a4 (tw @a7 (tw @a24 (tw @a25 (tw @kF (tw @jt (tw @rC (tw @rT (tw @vC (tw @vT (tw @Gy @hd5)))))))))))))))) ?_;(repeat(apply Pn.mk;intro N hN))))
      exact eo (.inl rfl) (vs:=[.agg [.bj],.int .i64 0,.int .i64 4]) (sd (tw @a26 (tw @ag0 (tw @ag1 (tw @a1 (tw @a2 (tw @a4 (tw @a7 (tw @a24 @a25))))))))) (by
       rw[GO,hr,Ax]
       exact⟨.bj,rfl,.inl ⟨by simp,rfl⟩,aH,fun x hx=>by
        have h:=bZ (i:=x) (n:=st_a.next) ae
        have h2:=bZ hx
        have h3:=aK x hx
        simp only[go_sem, ↓reduceIte,Nat.reduceEqDiff,Nat.reduceAdd,Nat.reduceSub,Nat.reduceLeDiff,reduceCtorEq,h,h2,h3]⟩)
     ·have hd5:¬(500:Int)<=((dn s es i).length:Int):=ae
      have qW:gD s es i=true:=by rw[gD,C6,Bool.true_and];exact decide_eq_true ae
      (try((repeat(revert N;apply Pn.out));refine wk (tw @a26 (tw @ag0 (tw @ag1 (tw @a1 (tw @a2 (tw @a4 (tw @a7 (tw @a24 (tw @a25 (tw @kF (tw @jt (tw @rC (tw @rT (tw @vC (tw @vT (tw @Gy @hd5)))))))))))))))) ?_;(repeat(apply Pn.mk;intro N hN))))
      have M6:xG (aA es i).aI=true:=by simp[ee]at hf;exact hf.1.1
      have lT:=Gt.no (wD YD hf)
      (try dsimp only at lT)
      rw[Gz]at lT
      refine .inr (ay _ _ _ _ _ (fun r σ2 hq=>?_) (R7 (σ:=⟨bI (bI st_a.get ⟨35008003,st_a.next+1⟩ ⟨true,3,[[.int .i64 0,.int .i64 0,.int .i64 0]]⟩) ⟨35008003,st_a.next+1⟩ ⟨true,3,[[.int .i64 (aA es i).aI.eV,.int .i64 (aA es i).aI.eQ,.int .i64 (aA es i).aY]]⟩,st_a.next+1+1+1+1+1⟩) (aC.frame aH fun x hx=>by
       have h9:=bZ hx
       simp only[go_sem, ↓reduceIte,Nat.reduceEqDiff,Nat.reduceAdd,Nat.reduceSub,Nat.reduceLeDiff,reduceCtorEq,h9]) hP.set VO (aA es i).aI M6 (aA es i).aY ht lT))
      obtain⟨g2,x2⟩:=σ2
      obtain⟨rfl,oL,Pa,Ht⟩:=hq
      (try dsimp only at oL Pa Ht)
      have m0:=Ht ⟨35000000,σ.next⟩ aH (nv aH) (nv aH)
      have m1:=Ht ⟨35000001,σ.next⟩ aH (nv aH) (nv aH)
      simp only[go_sem, ↓reduceIte,Nat.reduceEqDiff,Nat.reduceAdd,Nat.reduceSub,Nat.reduceLeDiff,reduceCtorEq,v0,v1,a26,ag0,ag1,a1,a2,a4,a7,a24,a25]at m0 m1
      have pU:(⟨(aA es i).aI,(aA es i).aY⟩:aa)=aA es i:=rfl
      rw[pU,<-Gz,List.append_assoc,<-uV gV]at oL
      have hKo:∀y:Id,y.bq<σ.next->g2 y=σ.get y:=fun y hy=>by
       have h3:=Ht y ae (nv ae) (nv ae)
       have h4:=bZ (i:=y) (n:=st_a.next) ae
       have h5:=aK y hy
       simp only[go_sem, ↓reduceIte,Nat.reduceEqDiff,Nat.reduceAdd,Nat.reduceSub,Nat.reduceLeDiff,reduceCtorEq,h4,h5]at h3
       exact h3
      apply hN
      clear hN N
      (try((repeat(revert N;apply Pn.out));refine wk (tw @a26 (tw @ag0 (tw @ag1 (tw @a1 (tw @a2 (tw @a4 (tw @a7 (tw @a24 @a25)))))))) ?_;(repeat(apply Pn.mk;intro N hN))))
      refine eh ?_ ?_ ?_ (qW) (by(try dsimp only);exact⟨ae,oL.frame aH fun x hx=>rfl,fun x hx=>hKo x hx⟩)
      all_goals simp only[go_sem, ↓reduceIte,Nat.reduceEqDiff,Nat.reduceAdd,Nat.reduceSub,Nat.reduceLeDiff,reduceCtorEq,a26,ag0,ag1,a1,a2,a4,a7,a24,a25,m0,m1]
  ·have nR:i=es.length:=ae
   subst nR
   have Ax:=Jj nJ
   have h00:s.bH.aj++es.take es.length≠[]:=fun e=>by have:=congrArg List.length e;rw[List.length_append,List.length_nil]at this;omega
   (try((repeat(revert N;apply Pn.out));refine wk (tw @a26 (tw @ag0 (tw @ag1 (tw @a1 (tw @a2 (tw @a4 (tw @a7 (tw @a24 (tw @a25 @hi))))))))) ?_;(repeat(apply Pn.mk;intro N hN))))
   refine .inr (ay _ _ _ _ _ (fun r σ2 hq=>?_) (sM (σ:=⟨st_a.get,_⟩) (L:=dn s es es.length) (aC.frame aH fun x _=>rfl) (by have:=lU;(try dsimp only at this);omega) h00 YD.1.xY Gt.perm))
   obtain⟨g2,x2⟩:=σ2
   obtain⟨o,rfl,q1,q2,q3,q4,q5⟩:=hq
   (try dsimp only at q1 q2 q3 q4 q5)
   have m1:=(q5 ⟨35000001,σ.next⟩ aH (nv aH)).trans ag1
   apply hN
   clear hN N
   (try((repeat(revert N;apply Pn.out));refine wk (tw @a26 (tw @ag0 (tw @ag1 (tw @a1 (tw @a2 (tw @a4 (tw @a7 (tw @a24 (tw @a25 @m1))))))))) ?_;(repeat(apply Pn.mk;intro N hN))))
   have vo:(o=(⟨35000001,σ.next⟩:Id))=False:=eq_false fun e=>by rw[e]at q2;(try dsimp only at q2);omega
   exact eo (.inl rfl) (vs:=[.agg [.own o 0 (dn s es es.length).length],.int .i64 0,.int .i64 0]) (sd (tw @a26 (tw @ag0 (tw @ag1 (tw @a1 (tw @a2 (tw @a4 (tw @a7 (tw @a24 @a25))))))))) (by
    rw[GO,hr,Ax]
    exact⟨_,rfl,.inr ⟨rfl,o,rfl,sd (tw @vo @q1),ae,aH⟩,aH,fun x hx=>by
     have h2:=bZ hx
     have h3:=(q5 x aH (nv ae)).trans (aK x hx)
     simp only[go_sem, ↓reduceIte,Nat.reduceEqDiff,Nat.reduceAdd,Nat.reduceSub,Nat.reduceLeDiff,reduceCtorEq,h2,h3]⟩)
 ·have hr:D5 s es=(0,2):=by rw[D5,h0,if_pos rfl,if_neg h5]
  have hd:decide ((500:Int)<(es.length:Int))=true:=decide_eq_true ae
  rw[ck]at h1 ⊢
  (repeat(first|((repeat(revert N;apply Pn.out));refine wk @hd ?_;(repeat(apply Pn.mk;intro N hN)))|((try apply Or.inl);refine⟨_,aw.x (h1) (sd @hd),?_⟩;apply hN;clear hN N)))
  exact eo (.inl rfl) (vs:=[.agg [.bj],.int .i64 0,.int .i64 2]) (sd @Nat.zero_add) (by
   rw[GO,hr]
   exact⟨.bj,rfl,.inl ⟨by decide,rfl⟩,aH,fun x hx=>by have h:=bZ hx;simp only[go_sem, ↓reduceIte,Nat.reduceEqDiff,Nat.reduceAdd,Nat.reduceSub,Nat.reduceLeDiff,reduceCtorEq,h]⟩)
def LS (n:Nat) (bs:List PB) (t:Int):Prop:=∀S:Nat->Bool,(∃x,x<n/\S x=true)->(∃y,y<n/\S y=false)->t<=gO S bs
theorem vN (S:Nat->Bool) (bs:List PB):gO S bs=qf (fun _=>True) S bs:=by simp[gO,qf]
theorem JN (S:Nat->Bool) (bs:List PB):gO (fun x=> !S x) bs=gO S bs:=by rw[vN,vN,Ey]
theorem wS {S:Nat->Bool}:∀{bs:List PB},(∀b∈bs,0<=b.s)->0<=gO S bs
 |[],_=>Int.le_refl _
 |b::bs,h=>by
  have ih:=wS (S:=S) (bs:=bs) fun x hx=>h x (List.mem_cons_of_mem _ hx)
  have:=h b List.mem_cons_self
  rw[nN]
  split<;>omega
theorem IF {S:Nat->Bool}:∀{bs:List PB},(∀b∈bs,0<=b.s)->∀b∈bs,S b.a≠S b.b->b.s<=gO S bs
 |[],_,b,hb,_=>by cases hb
 |c::bs,h,b,hb,iI=>by
  have h0:=wS (S:=S) (bs:=bs) fun x hx=>h x (List.mem_cons_of_mem _ hx)
  have hc:=h c List.mem_cons_self
  rw[nN]
  rcases List.mem_cons.1 hb with rfl|hb
  ·rw[if_neg iI];omega
  ·have:=IF (S:=S) (bs:=bs) (fun x hx=>h x (List.mem_cons_of_mem _ hx)) b hb iI
   split<;>omega
theorem Ew (S:Nat->Bool) (x y:List PB):gO S (x++y)=gO S x+gO S y:=by simp[gO]
theorem G7 {S:Nat->Bool} {L:Nat->Nat} {b:PB} (h:∀k,S (L k)=S k) (hb:S b.a=S b.b) (k:Nat):S (jb L b k)=S k:=by
 unfold jb
 split
 ·rename_i e
  rw[<-h k,e]
  have ha:=h b.a
  have pH:=h b.b
  rcases Nat.le_total (L b.a) (L b.b)with h1|h1
  ·rw[Nat.min_eq_left h1,Nat.max_eq_right h1,ha,pH,hb]
  ·rw[Nat.min_eq_right h1,Nat.max_eq_left h1,ha,pH,hb]
 ·exact h k
theorem yH {S:Nat->Bool}:∀(bs:List PB) (L:Nat->Nat),(∀b∈bs,S b.a=S b.b)->(∀k,S (L k)=S k)->∀k,S (bs.foldl jb L k)=S k
 |[],_,_,h=>h
 |b::bs,L,hb,h=>yH bs _ (fun c hc=>hb c (List.mem_cons_of_mem _ hc)) (G7 h (hb b List.mem_cons_self))
theorem qe {L:Nat->Nat} {S S':Nat->Bool}:∀{bs:List PB},(∀b∈bs,S' (dV L b.a)=S b.a/\S' (dV L b.b)=S b.b)->gO S' (ep L bs)=gO S bs
 |[],_=>rfl
 |b::bs,h=>by
  have ih:=qe (L:=L) (S:=S) (S':=S') (bs:=bs) fun x hx=>h x (List.mem_cons_of_mem _ hx)
  obtain⟨h1,h2⟩:=h b List.mem_cons_self
  unfold ep at ih ⊢
  rw[List.filterMap_cons,nN]
  by_cases e:dV L b.a=dV L b.b
  ·simp only[e,if_true]
   rw[ih,if_pos (by rw[<-h1,<-h2,e])];omega
  ·simp only[e,if_false]
   rw[nN,ih,h1,h2]
theorem zm {L:Nat->Nat} (h:kK L):dV L 0=0:=by
 have:=h.le 0
 unfold dV
 rw[show L 0=0 by omega];rfl
theorem AI {n:Nat} {bs:List PB} {t:Int} (hb:∀b∈bs,b.a<n/\b.b<n/\0<=b.s) (h:lu n bs t):LS n bs t:=by
 have key:∀S:Nat->Bool,S 0=true->(∃y,y<n/\S y=false)->t<=gO S bs:=fun S h0 ⟨y,hy,hyf⟩=>by
  by_cases hc:∃b∈bW t bs,S b.a≠S b.b
  ·obtain⟨b,hm,iI⟩:=hc
   obtain⟨hm,ht⟩:=List.mem_filter.1 hm
   have:=IF (S:=S) (fun b pH=>(hb b pH).2.2) b hm iI
   have:=of_decide_eq_true ht
   omega
  ·have hcst:∀k,S (fe (bW t bs) k)=S k:=yH _ _ (fun b pH=>Decidable.byContradiction fun e=>hc ⟨b,pH,e⟩) fun _=>rfl
   have hL:=zj (bW t bs)
   have ly:∀k,k<n->(fun j=>S ((leads n (fe (bW t bs))).getD j 0)) (dV (fe (bW t bs)) k)=S k:=fun k hk=>by
    show S ((leads n (fe (bW t bs))).getD _ 0)=S k
    rw[List.getD_eq_getElem?_getD,nU hL hk]
    exact hcst k
   rw[<-qe (L:=fe (bW t bs)) (S':=fun j=>S ((leads n (fe (bW t bs))).getD j 0)) fun b pH=>⟨ly _ (hb b pH).1,ly _ (hb b pH).2.1⟩]
   refine h.2 _ ?_ ⟨dV (fe (bW t bs)) y,nZ hL hy,(ly y hy).trans hyf⟩
   have:=ly 0 ae
   rw[zm hL]at this
   exact this.trans h0
 intro S hx hy
 cases h0:S 0
 ·rw[<-JN]
  obtain⟨x,hx,hxt⟩:=hx
  exact key _ (by simp[h0]) ⟨x,hx,by simp[hxt]⟩
 ·exact key S h0 hy
theorem C5 {n:Nat} {bs:List PB} {t:Int} (h:LS n bs t) (st:List PB):sK (leads n (fe st)).length (ep (fe st) bs) t:=by
 intro S h0 ⟨y,hy,hyf⟩
 have hL:=zj st
 rw[qe (S:=fun k=>S (dV (fe st) k)) fun b _=>⟨rfl,rfl⟩]
 have Zm:=(wi.1 (List.getElem_mem hy))
 have hm:=(wv hL Zm.1 hy).1 (nj.2 ⟨Zm.1,Zm.2⟩)
 exact h _ ⟨0,ae,by rw[zm hL];exact h0⟩ ⟨_,Zm.1,by rw[hm];exact hyf⟩
theorem zQ (x:aa):∀l:List aa,∃k,k<=l.length/\gn l x=l.take k++x::l.drop k
 |[]=>⟨0,Nat.le_refl _,rfl⟩
 |y::r=>by
  obtain⟨k,hk,e⟩:=zQ x r
  rw[gn]
  split
  ·exact⟨0,Nat.zero_le _,rfl⟩
  ·exact⟨k+1,by simpa using hk,by rw[e];rfl⟩
theorem GX {s:az} {a b d:Int} (hd:ik d 0 3=true):gh s b (km d) a=gh s a d b:=by
 have h2:km (km d)=d:=by
  obtain⟨h1,h2⟩:=dY hd
  have:d=0∨d=1∨d=2∨d=3:=ae
  rcases this with rfl|rfl|rfl|rfl<;>rfl
 unfold gh
 rw[h2]
 by_cases e:er (eu s a) d=er (eu s b) (km d)
 ·rw[if_pos e,if_pos e.symm,e]
 ·rw[if_neg e,if_neg fun h=>e h.symm]
theorem Bl (S:Nat->Bool) (f:Nat->List PB):∀n,gO S ((List.range n).flatMap f)=jN (fun i=>gO S (f i)) n
 |0=>rfl
 |n+1=>by rw[List.range_succ,List.flatMap_append,Ew,Bl S f n];simp[jN]
theorem G5 (S:Nat->Bool) (s:az) (l:List aa):gO S (dg s l)=jN (fun i=>gO S (gi s l i 1)+gO S (gi s l i 0)) l.length:=by
 unfold dg lv
 rw[Bl]
 refine ji fun i _=>?_
 rw[<-Ew]
 congr 1
 rw[jF,jF]
 simp[gQ]
theorem qQ {s:az} (hS:gy s) {l:List aa} (S:Nat->Bool) (i:Nat) (d:Int):0<=gO S (gi s l i d)/\(0<=dm l (bc (aA l i).aI d)->S i≠S (dm l (bc (aA l i).aI d)).toNat->gO S (gi s l i d)=gh s (aA l i).aY d (aA l (dm l (bc (aA l i).aI d)).toNat).aY):=by
 have hb:=qb hS (aA l i).aY d (aA l (dm l (bc (aA l i).aI d)).toNat).aY
 unfold gi
 generalize gh s (aA l i).aY d (aA l (dm l (bc (aA l i).aI d)).toNat).aY=v at *
 split
 ·rename_i h
  rw[nN]
  refine⟨?_,fun h1 h2=>?_⟩
  ·split<;>simp[gO]<;>omega
  ·rw[if_neg h2];simp[gO]
 ·rename_i h
  refine⟨by simp[gO],fun h1 h2=>?_⟩
  have:¬0<v:=fun h3=>h ⟨h1,h3⟩
  have:v=0:=ae
  rw[this];rfl
def nh (s:az) (F:ai->Int) (p:ai) (t:Int) (d:Int):Int:=if 0<=F (bc p d)then gh s t d (F (bc p d))else 0
theorem vH (s:az) (F:ai->Int) (p:ai) (t:Int):jE s F p t=nh s F p t 0+nh s F p t 1+nh s F p t 2+nh s F p t 3:=by
 simp[jE,dw,nh]
theorem sum3 {g:Nat->Int} {n k:Nat} {a:Int} (hg:∀i,i<n->0<=g i) (hk:k<n) (ha:a<=g k) (o2 o3:Option (Nat×Int)) (h2:∀j v,o2=some (j,v)->j<n/\j≠k/\v<=g j/\0<=v) (h3:∀j v,o3=some (j,v)->j<n/\j≠k/\v<=g j/\0<=v) (h23:∀i v j u,o2=some (i,v)->o3=some (j,u)->i≠j):
  a+((o2.map (·.2)).getD 0)+((o3.map (·.2)).getD 0)<=jN g n:=by
 have main:jN (fun i=>((0+if i=k then a else 0)+if i=(o2.map (·.1)).getD n then(o2.map (·.2)).getD 0 else 0)+if i=(o3.map (·.1)).getD n then(o3.map (·.2)).getD 0 else 0) n<=jN g n:=by
  refine uR fun i hi=>?_
  have h0:=hg i hi
  cases o2 with
  |none=>
   cases o3 with
   |none=>simp only[Option.map_none,Option.getD_none,if_neg (show ¬i=n by omega)];split<;>simp_all
   |some q=>
    obtain⟨j,v⟩:=q
    obtain⟨q1,q2,q3,q4⟩:=h3 j v rfl
    simp only[Option.map_none,Option.getD_none,Option.map_some,Option.getD_some,if_neg (show ¬i=n by omega)]
    by_cases e1:i=k<;>by_cases e2:i=j<;>simp[e1,e2]<;>(try subst e1)<;>(try subst e2)<;>simp_all
  |some z=>
   obtain⟨m,u⟩:=z
   obtain⟨p1,p2,p3,p4⟩:=h2 m u rfl
   cases o3 with
   |none=>
    simp only[Option.map_none,Option.getD_none,Option.map_some,Option.getD_some,if_neg (show ¬i=n by omega)]
    by_cases e1:i=k<;>by_cases e2:i=m<;>simp[e1,e2]<;>(try subst e1)<;>(try subst e2)<;>simp_all
   |some q=>
    obtain⟨j,v⟩:=q
    obtain⟨q1,q2,q3,q4⟩:=h3 j v rfl
    have hmj:=h23 m u j v rfl rfl
    simp only[Option.map_some,Option.getD_some]
    by_cases e1:i=k
    ·subst e1
     rw[if_pos rfl,if_neg (fun e=>p2 e.symm),if_neg (fun e=>q2 e.symm)];omega
    ·rw[if_neg e1]
     by_cases e2:i=m
     ·subst e2
      rw[if_pos rfl,if_neg hmj];omega
     ·rw[if_neg e2]
      by_cases e3:i=j
      ·subst e3
       rw[if_pos rfl];omega
      ·rw[if_neg e3];omega
 rw[lp,lp,lp,me fun _ _=>rfl,if_pos hk]at main
 have e2:(if (o2.map (·.1)).getD n<n then(o2.map (·.2)).getD 0 else 0)=(o2.map (·.2)).getD 0:=by
  cases o2 with
  |none=>simp
  |some q=>obtain⟨j,v⟩:=q;simp[(h2 j v rfl).1]
 have e3:(if (o3.map (·.1)).getD n<n then(o3.map (·.2)).getD 0 else 0)=(o3.map (·.2)).getD 0:=by
  cases o3 with
  |none=>simp
  |some q=>obtain⟨j,v⟩:=q;simp[(h3 j v rfl).1]
 rw[e2,e3]at main
 omega
theorem QW {p:ai} {a b:Int} (ha:ik a 0 3=true) (hb:ik b 0 3=true) (h:a≠b):bc p a≠bc p b:=by
 obtain⟨h1,h2⟩:=dY ha
 obtain⟨h3,h4⟩:=dY hb
 have:a=0∨a=1∨a=2∨a=3:=ae
 have:b=0∨b=1∨b=2∨b=3:=ae
 intro e
 rcases ‹a=0∨a=1∨a=2∨a=3›with rfl|rfl|rfl|rfl<;>rcases ‹b=0∨b=1∨b=2∨b=3›with rfl|rfl|rfl|rfl<;>simp[bc]at e<;>(first|exact absurd rfl h|omega)
theorem ll {p:ai} {a:Int} (ha:ik a 0 3=true):bc p a≠p:=by
 obtain⟨h1,h2⟩:=dY ha
 have:a=0∨a=1∨a=2∨a=3:=ae
 intro e
 have e1:=congrArg ai.eV e
 have e2:=congrArg ai.eQ e
 rcases this with rfl|rfl|rfl|rfl<;>simp[bc]at e1 e2<;>omega
theorem JV {s:az} (hS:gy s) {A:List aa} (hR:jk A) {k:Nat} (hk:k<A.length) (S:Nat->Bool) (hs:∀j,j<A.length->j≠k->S j≠S k):
  jE s (fun q=>if q=(aA A k).aI then -1 else eM A q) (aA A k).aI (aA A k).aY<=gO S (dg s A):=by
 have AN:∀q,0<=dm A q->(dm A q).toNat<A.length/\(aA A (dm A q).toNat).aI=q:=fun q h=>iC h
 have hkix:dm A (aA A k).aI=k:=by rw[ez hk];exact wc hR hk
 have pw:∀q,0<=dm A q->eM A q=(aA A (dm A q).toNat).aY:=fun q h=>by unfold eM;rw[if_pos h]
 have rU:∀q,0<=eM A q->0<=dm A q:=fun q h=>by
  unfold eM at h
  split at h
  ·assumption
  ·omega
 rw[G5,vH]
 have fw:∀d:Int,ik d 0 3=true->nh s (fun q=>if q=(aA A k).aI then -1 else eM A q) (aA A k).aI (aA A k).aY d<=gO S (gi s A k d):=fun d hd=>by
  have hc:=qQ hS (l:=A) S k d
  unfold nh
  split
  ·rename_i h0
   (try dsimp only at h0 ⊢)
   rw[if_neg (ll hd)]at h0 ⊢
   have h1:=rU _ h0
   obtain⟨h2,h3⟩:=AN _ h1
   rw[hc.2 h1 (fun e=>hs _ h2 (fun e2=>by rw[e2]at h3;exact ll hd h3.symm) e.symm),pw _ h1]
   exact Int.le_refl _
  ·exact hc.1
 have bw:∀d e:Int,ik d 0 3=true->ik e 0 3=true->km d=e->0<=eM A (bc (aA A k).aI d)->
   (dm A (bc (aA A k).aI d)).toNat<A.length/\(dm A (bc (aA A k).aI d)).toNat≠k/\gh s (aA A k).aY d (eM A (bc (aA A k).aI d))<=gO S (gi s A (dm A (bc (aA A k).aI d)).toNat e)/\(aA A (dm A (bc (aA A k).aI d)).toNat).aI=bc (aA A k).aI d:=fun d e hd he hde h0=>by
  have h1:=rU _ h0
  obtain⟨h2,h3⟩:=AN _ h1
  have iI:(dm A (bc (aA A k).aI d)).toNat≠k:=fun e2=>by rw[e2]at h3;exact ll hd h3.symm
  refine⟨h2,iI,?_,h3⟩
  have hc:=qQ hS (l:=A) S (dm A (bc (aA A k).aI d)).toNat e
  have ed:bc (aA A (dm A (bc (aA A k).aI d)).toNat).aI e=(aA A k).aI:=by
   rw[h3,<-hde]
   obtain⟨q1,q2⟩:=dY hd
   have:=rH (aA A k).aI d.toNat ae
   rwa [Int.toNat_of_nonneg q1]at this
  rw[ed,hkix]at hc
  rw[hc.2 ae (by simpa using hs _ h2 iI),pw _ h1,<-hde,GX hd]
  simp
 have g0:∀i,i<A.length->0<=gO S (gi s A i 1)+gO S (gi s A i 0):=fun i _=>by
  have h1:=(qQ hS (l:=A) S i 1).1
  have h2:=(qQ hS (l:=A) S i 0).1
  omega
 have DT:∀a d b:Int,0<=gh s a d b:=fun a d b=>(qb hS a d b).1
 have b2:=bw 2 0 rfl rfl rfl
 have b3:=bw 3 1 rfl rfl rfl
 have f0:=fw 0 rfl
 have f1:=fw 1 rfl
 have s3:=@sum3 (fun i=>gO S (gi s A i 1)+gO S (gi s A i 0)) A.length k (nh s (fun q=>if q=(aA A k).aI then -1 else eM A q) (aA A k).aI (aA A k).aY 0+nh s (fun q=>if q=(aA A k).aI then -1 else eM A q) (aA A k).aI (aA A k).aY 1) g0 hk aH
  (if 0<=eM A (bc (aA A k).aI 2)then some ((dm A (bc (aA A k).aI 2)).toNat,gh s (aA A k).aY 2 (eM A (bc (aA A k).aI 2)))else none)
  (if 0<=eM A (bc (aA A k).aI 3)then some ((dm A (bc (aA A k).aI 3)).toNat,gh s (aA A k).aY 3 (eM A (bc (aA A k).aI 3)))else none)
  (fun j v h=>by
   split at h
   ·rename_i h0
    simp only[Option.some.injEq,Prod.mk.injEq]at h
    obtain⟨rfl,rfl⟩:=h
    obtain⟨c1,c2,c3,_⟩:=b2 h0
    exact⟨c1,c2,by have:=(qQ hS (l:=A) S (dm A (bc (aA A k).aI 2)).toNat 1).1;omega,DT _ _ _⟩
   ·cases h)
  (fun j v h=>by
   split at h
   ·rename_i h0
    simp only[Option.some.injEq,Prod.mk.injEq]at h
    obtain⟨rfl,rfl⟩:=h
    obtain⟨c1,c2,c3,_⟩:=b3 h0
    exact⟨c1,c2,by have:=(qQ hS (l:=A) S (dm A (bc (aA A k).aI 3)).toNat 0).1;omega,DT _ _ _⟩
   ·cases h)
  (fun i v j u h h' e=>by
   split at h
   ·rename_i h0
    split at h'
    ·rename_i h1
     simp only[Option.some.injEq,Prod.mk.injEq]at h h'
     obtain⟨e1,_⟩:=h
     obtain⟨e2,_⟩:=h'
     have c1:=(b2 h0).2.2.2
     have c2:=(b3 h1).2.2.2
     rw[e1]at c1
     rw[e2,<-e,c1]at c2
     exact QW (p:=(aA A k).aI) (a:=2) (b:=3) rfl rfl (by decide) c2
    ·cases h'
   ·cases h)
 refine Int.le_trans (Int.le_of_eq ?_) s3
 have d2:nh s (fun q=>if q=(aA A k).aI then -1 else eM A q) (aA A k).aI (aA A k).aY 2=((if 0<=eM A (bc (aA A k).aI 2)then some ((dm A (bc (aA A k).aI 2)).toNat,gh s (aA A k).aY 2 (eM A (bc (aA A k).aI 2)))else none).map (·.2)).getD 0:=by
  unfold nh
  simp only[if_neg (ll (show ik 2 0 3=true from rfl))]
  split<;>rfl
 have d3:nh s (fun q=>if q=(aA A k).aI then -1 else eM A q) (aA A k).aI (aA A k).aY 3=((if 0<=eM A (bc (aA A k).aI 3)then some ((dm A (bc (aA A k).aI 3)).toNat,gh s (aA A k).aY 3 (eM A (bc (aA A k).aI 3)))else none).map (·.2)).getD 0:=by
  unfold nh
  simp only[if_neg (ll (show ik 3 0 3=true from rfl))]
  split<;>rfl
 rw[d2,d3]
theorem K2 (k n:Nat):(List.range k++(List.range n).map fun j=>j+k+1).Pairwise (· < ·):=by
 rw[List.pairwise_append]
 refine⟨List.pairwise_lt_range,List.pairwise_map.2 (List.pairwise_lt_range.imp fun h=>ae),fun a ha b hb=>?_⟩
 obtain⟨j,hj,rfl⟩:=List.mem_map.1 hb
 have:=List.mem_range.1 ha
 omega
theorem Ep {s:az} {F G:ai->Int} {p:ai} {t:Int} (h:∀d:Int,ik d 0 3=true->F (bc p d)=G (bc p d)):jE s F p t=jE s G p t:=by
 rw[vH,vH]
 unfold nh
 rw[h 0 rfl,h 1 rfl,h 2 rfl,h 3 rfl]
theorem PF {s:az} (hS:gy s) {l:List aa} (hR:jk l) {x:aa} {t:Int} (h0:dm l x.aI<0) (hb:t<=jE s (eM l) x.aI x.aY) (h:LS l.length (dg s l) t):LS (gn l x).length (dg s (gn l x)) t:=by
 obtain⟨k,hk,e⟩:=zQ x l
 have hRA:=zP hR h0
 have lT:=iZ.1 h0
 have hlen:=kn x l
 have oy:k<(gn l x).length:=ae
 have hxk:aA (gn l x) k=x:=by
  rw[ez oy]
  simp only[e]
  rw[List.getElem_append_right (by rw[List.length_take];omega)]
  simp[Nat.min_eq_left hk]
 generalize hp:(List.range k++(List.range (l.length-k)).map fun j=>j+k+1)=p
 have hpa:p.Pairwise (· < ·):=by rw[<-hp];exact K2 _ _
 have Y3:∀j,j∈p↔j<(gn l x).length/\j≠k:=fun j=>by
  rw[<-hp,List.mem_append,List.mem_range,List.mem_map,hlen]
  constructor
  ·rintro(h|⟨i,hi,rfl⟩)
   ·exact⟨ae,ae⟩
   ·have:=List.mem_range.1 hi
    exact⟨ae,ae⟩
  ·rintro⟨h1,h2⟩
   by_cases h3:j<k
   ·exact .inl h3
   ·exact .inr ⟨j-k-1,List.mem_range.2 ae,ae⟩
 have nS:oi (gn l x) p=l:=by
  unfold oi
  rw[<-hp,List.map_append,List.map_map]
  refine List.ext_getElem (by simp;omega) fun i h1 h2=>?_
  by_cases hi:i<k
  ·rw[List.getElem_append_left (by simpa using hi)]
   simp only[List.getElem_map,List.getElem_range]
   rw[ez ae]
   simp only[e]
   rw[List.getElem_append_left (by rw[List.length_take];omega)]
   simp
  ·rw[List.getElem_append_right (by simpa using hi)]
   simp only[List.getElem_map,List.getElem_range,List.length_map,List.length_range,Function.comp]
   rw[ez ae]
   simp only[e]
   rw[List.getElem_append_right (by rw[List.length_take];omega)]
   simp only[List.length_take,Nat.min_eq_left hk]
   rw[List.getElem_cons]
   rw[dif_neg ae]
   simp only[List.getElem_drop]
   congr 1
   omega
 have hlp:p.length=l.length:=by rw[<-nS];simp[oi]
 intro S ⟨a,ha,pw⟩ ⟨c,hc,hcf⟩
 by_cases Y9:(∃a∈p,S a=true)/\∃c∈p,S c=false
 ·obtain⟨⟨a,ha,pw⟩,c,hc,hcf⟩:=Y9
  have gV:=JM (s:=s) hRA hpa (fun j hj=>((Y3 j).1 hj).1)
  rw[nS]at gV
  have yY:=Bn p (fun j=>S (p.getD j 0)) (dg s (gn l x))
  rw[gV]at yY
  have hcg:qf (·∈p) (fun j=>S (p.getD (B3 p j).toNat 0)) (dg s (gn l x))=qf (·∈p) S (dg s (gn l x)):=yD (fun j hj=>by
   obtain⟨e1,_,e3⟩:=uG hj
   (try dsimp only)
   rw[e1,e3]) _
  have hw:∀j∈p,∃i,i<l.length/\p.getD i 0=j:=fun j hj=>by
   obtain⟨_,e2,e3⟩:=uG hj
   exact⟨_,ae,e3⟩
  obtain⟨i1,Ty,e1⟩:=hw a ha
  obtain⟨i2,xD,e2⟩:=hw c hc
  have:=h (fun j=>S (p.getD j 0)) ⟨i1,Ty,by(try dsimp only);rw[e1,pw]⟩ ⟨i2,xD,by(try dsimp only);rw[e2,hcf]⟩
  have hm:=vP (P:=(·∈p)) (Q:=fun _=>True) (S:=S) (fun _ _=>trivial) (bs:=dg s (gn l x)) fun b hb=>(vI hS b hb).2.2.1
  rw[vN]
  rw[yY,hcg]at this
  omega
 ·have hs:∀j,j<(gn l x).length->j≠k->S j≠S k:=fun j hj Av ejk=>by
   have hjp:=(Y3 j).2 ⟨hj,Av⟩
   apply Y9
   cases hSj:S j
   ·refine⟨⟨a,(Y3 a).2 ⟨ha,fun e2=>?_⟩,pw⟩,j,hjp,hSj⟩
    rw[e2,<-ejk,hSj]at pw;cases pw
   ·refine⟨⟨j,hjp,hSj⟩,c,(Y3 c).2 ⟨hc,fun e2=>?_⟩,hcf⟩
    rw[e2,<-ejk,hSj]at hcf;cases hcf
  have:=JV hS hRA oy S hs
  rw[hxk]at this
  refine Int.le_trans hb (Int.le_trans (Int.le_of_eq (Ep fun d hd=>?_)) this)
  rw[if_neg (ll hd),yn _ lT,if_neg fun e2=>ll hd e2.symm]
theorem BA {s:au} (hP:mj s) {es:List aa} (hg:iS s es):∀i,i<=es.length->LS (dn s es i).length (dg s.aD (dn s es i)) s.aE
 |0,_=>AI (fun b hb=>by have:=vI hP.set b hb;exact⟨this.1,this.2.1,this.2.2.1⟩) hP.holds
 |i+1,hi=>by
  have ih:=BA hP hg i ae
  have hA:=jL hP i ae fun j hj=>hg j ae
  have jt:=hg i ae
  unfold gD Ji at jt
  simp only[Bool.and_eq_true]at jt
  have hf:=jt.1.2
  have hb:s.aE<=jE s.aD (eM (dn s es i)) (aA es i).aI (aA es i).aY:=by
   unfold ee at hf
   simp only[Bool.and_eq_true,decide_eq_true_eq]at hf
   exact hf.2
  rw[mc s es ae]
  exact PF hP.set hA.1.xY (wD hA hf) hb ih
theorem CW {s:au} (hP:mj s) {es:List aa} (hg:iS s es):64<(leads (dn s es es.length).length (fe (bW s.aE (dg s.aD (dn s es es.length))))).length∨lu (dn s es es.length).length (dg s.aD (dn s es es.length)) s.aE:=by
 by_cases h:(leads (dn s es es.length).length (fe (bW s.aE (dg s.aD (dn s es es.length))))).length<=64
 ·exact .inr ⟨h,C5 (BA hP hg _ (Nat.le_refl _)) _⟩
 ·exact .inl ae
structure LX (s:au) (a:List aa):Prop where
 Wn:gx s.aD a
 o8:ir s.bH.aj a=true
 grown:(k8 s a).2=a
theorem BP {s:au} (hP:mj s) {es:List aa} (hG:iS s es):LX s (dn s es es.length):=by
 have hA:=jL hP (es:=es) es.length (Nat.le_refl _) hG
 have hW:ir s.bH.aj (dn s es es.length)=true:=(within_iff hP.o8 hA.1.xY).2 fun x hx=>FK.2 (.inl hx)
 have hI:=qw hP.w hA hW
 refine⟨hA,hW,N5 hI.xY hA.1.xY fun x=>⟨fun hx=>hI.sub x hx,fun hx=>?_⟩⟩
 exact B4 hP.set (Kv hP.w hA hW) hA.1.xY (fun y hy=>Ku s _ hy) (fun y hy=>FK.2 (.inr (by rw[List.take_length];exact hy))) hG es.length (Nat.le_refl _) x hx
theorem LX.over {s:au} (hP:mj s) {a:List aa} (h:LX s a):jY s a=0:=by
 rw[jY,tQ.2 ⟨hP,h.Wn⟩,h.o8];rfl
structure Cn (s:au) (l:List aa) (st:iJ):Prop where
 inv:oD s l st
 S9:iS s st.1
 at_:dn s st.1 st.1.length=st.2
theorem Od {s:au} {l:List aa} (hA:gx s.aD l) {st:iJ} (h:Cn s l st) {x:aa} (hx:x∈l) (hI:oD s l (fy s st x)):Cn s l (fy s st x):=by
 refine⟨hI,?_,?_⟩
 ·have hf:=hI.pL
  have h500:=hA.1.pL
  unfold fy at hf ⊢
  split
  ·rename_i kF
   rw[if_pos kF]at hf
   simp only[kn]at hf
   intro j hj
   (try dsimp only at hj ⊢)
   rw[List.length_append,List.length_singleton]at hj
   by_cases h0:j<st.1.length
   ·rw[zJ h0];exact h.S9 j h0
   ·have e:j=st.1.length:=ae
    subst e
    unfold gD Ji
    rw[uH (Nat.le_refl _),show aA (st.1++[x]) st.1.length=x by simp[aA],h.at_,hA.2 x hx,kF]
    simp;omega
  ·exact h.S9
 ·unfold fy
  split
  ·(try dsimp only)
   rw[List.length_append,List.length_singleton,F0,h.at_]
  ·exact h.at_
theorem Oe {s:au} {l:List aa} (hA:gx s.aD l) {st:iJ} (h:Cn s l st):∀i,i<=l.length->Cn s l (ja s l st i)
 |0,_=>by simpa[ja]using h
 |i+1,hi=>by
  have ih:=Oe hA h i ae
  have hI:=(wM h.inv hA (i+1) hi).1
  rw[tj s l st ae]at hI ⊢
  exact Od hA ih (fH ae) hI
theorem F9 {s:au} {l:List aa} (hA:gx s.aD l) {st:iJ} (h:Cn s l st):Cn s l (gJ s l st):=by
 rw[<-nT];exact Oe hA h _ (Nat.le_refl _)
theorem R9 {s:au} {l:List aa} (hA:gx s.aD l):∀(n:Nat) {st:iJ},Cn s l st->Cn s l (rX s l n st)
 |0,_,h=>h
 |n+1,st,h=>by
  rw[rX]
  split
  ·exact F9 hA h
  ·exact R9 hA n (F9 hA h)
theorem X9 {s:au} (hP:mj s) {l:List aa} (hA:gx s.aD l) (hW:ir s.bH.aj l=true):Cn s l (k8 s l):=
 R9 hA _ ⟨q9 hP.w hA hW,iS.nil s,rfl⟩
theorem Ke {s:au} (hP:mj s) {es:List aa} (hG:iS s es):
  ∃os:List aa,k8 s (dn s es es.length)=(os,dn s es es.length)/\os.length=es.length/\iS s os/\dn s os os.length=dn s es es.length:=by
 have hM:=BP hP hG
 have h:=X9 hP hM.Wn hM.o8
 refine⟨(k8 s (dn s es es.length)).1,Prod.ext rfl hM.grown,?_,h.S9,h.at_.trans hM.grown⟩
 have h1:=h.inv.len
 rw[hM.grown,oc s es _ (Nat.le_refl _)]at h1
 omega
section
variable {P:Program} {α:Type} {e:α->List AV} {z:Nat} {g g':Rows} {v:AV} {L:List α} {ids:List Id}
def OutT (e:α->List AV) (z:Nat) (g:Rows) (v:AV) (L:List α) (ids:List Id):Prop:=(L=[]/\v=.bj/\ids=[])∨∃(o:Id) (J:List α),v=.own o 0 L.length/\g o=some ⟨true,z,(L++J).map e⟩/\ids=[o]/\0<L.length
end
theorem ZZ {g:Rows} {u u':AV} (h0:V.fz g 6 u=some u'):eI g 6 [u]=some [u']:=by simp only[aq,ar,h0,Option.map_some]
theorem S5 {g:Rows} {u v u' v':AV} (h0:V.fz g 6 u=some u') (h1:V.fz g 6 v=some v'):eI g 6 [u,v]=some [u',v']:=by simp only[aq,ar,h0,h1,Option.map_some]
theorem Z0 {g:Rows} {u v w x u' v' w' x':AV} (h0:V.fz g 6 u=some u') (h1:V.fz g 6 v=some v') (h2:V.fz g 6 w=some w') (h3:V.fz g 6 x=some x'):eI g 6 [u,v,w,x]=some [u',v',w',x']:=by simp only[aq,ar,h0,h1,h2,h3,Option.map_some]
theorem S3 (x:aa) (g:Rows):eY g 4 (ab x)=some (ab x):=by simp[ab,bx,cw,ej]
theorem Dw {dX:List Int} {k:Nat} (h:k<dX.length):(dX.map aM)[k]? =some [.int .i64 (dX.getD k 0)]:=getD_map aM h
theorem o9 (a b:Nat):(a:Int).tmod (b:Int)=((a % b:Nat):Int):=by rw[Int.tmod_eq_emod_of_nonneg ae];rfl
noncomputable def ET (s:au) (dX:List Int) (steps:Nat) (b:Bool):AV:=match qt s dX steps with
 |some es=>.fP [.sl (es.map ab),.agg [.sl ((dn s es es.length).map ab)],.bool b,.int .i64 0]
 |none=>.fP [.bj,.agg [.bj],.bool b,.int .i64 4]
theorem KG (s:au) (hP:mj s) (dX:List Int) (hs:∀x∈dX,0<=x/\x<=1000) (qZ:dX.length<=200) (steps:Nat) (ed:steps<=500):
  kb Tryz.prog 81 [.ef (ck s),.ef [.sl (s.bH.aj.map ab)],.sl (dX.map aM),.int .i64 (steps:Int)] fun r=>∃b,r=ET s dX steps b:=by
 refine kb.body fx rfl fun fD n0=>?_
 clear fD
 have Nb:=hP.o8.1.pL
 have fc:(dX.map aM).length=dX.length:=by simp
 (try((repeat(revert N;apply Pn.out));refine wk @ck.eq_1 ?_;(repeat(apply Pn.mk;intro N hN))))
 refine .inr (ay _ _ _ _ _ (fun r σ1 I4=>?_) (Sq.val (fun n=>Ns s.bH.aj ae n) (by simp only[aq,ar,aP,Option.map_some])))
 obtain⟨⟨o,rfl,q1,q2,q3⟩,hK⟩:=I4
 obtain⟨g1,x1⟩:=σ1
 (try dsimp only at q1 q2 q3 hK)
 have sC:=hK.1
 (try dsimp only at sC)
 have k4:=hK.2 ⟨81000001,n0⟩ aH
 simp only[go_sem, ↓reduceIte,Nat.reduceEqDiff,Nat.reduceAdd,Nat.reduceSub,Nat.reduceLeDiff,reduceCtorEq]at k4
 apply hN
 clear hN N
 (try((repeat(revert N;apply Pn.out));refine wk (tw @k4 @ck.eq_1) ?_;(repeat(apply Pn.mk;intro N hN))))
 have Xv:=KY s []
 obtain⟨X,hX⟩:∃X:Id,X=⟨81001002,x1⟩:=⟨_,rfl⟩
 obtain⟨Y,hY⟩:∃Y:Id,Y=⟨81000001,n0⟩:=⟨_,rfl⟩
 have hXY:X≠Y:=by rw[hX,hY];intro e;injection e with e1 e2;revert e1;decide
 have vo0:=bZ (i:=o) (n:=x1) q3
 refine cm (fun m env st=>∃(es:List aa) (f:Nat),m=f/\rQ s dX steps f es=qt s dX steps/\iS s es/\es.length<=steps/\501<=f+(dn s es es.length).length/\(∃o w:Id,env 13=.own w 0 es.length/\st.get w=some ⟨true,3,es.map ab⟩/\st.get X=some ⟨true,1,[[.own o 0 (dn s es es.length).length]]⟩/\st.get o=some ⟨true,3,(dn s es es.length).map ab⟩/\o≠w/\o≠X/\o≠Y/\o.bq<st.next/\w.bq<st.next/\(w.site=81002000∨w.site=81015006))/\st.get Y=some ⟨true,1,[[.bj]]⟩/\x1<st.next) 501 ⟨[],501,rfl,rfl,iS.nil s,by simp,ae,⟨o,⟨81002000,x1+1⟩,sl @Nat.zero_add,sl @Nat.zero_add,by rw[hX];simp only[go_sem, ↓reduceIte,Nat.reduceEqDiff,Nat.reduceAdd,Nat.reduceSub,Nat.reduceLeDiff,reduceCtorEq]<;>rfl,sl (tw @vo0 @q1),fun e=>by rw[e]at q3;(try dsimp only at q3);omega,fun e=>by rw[e,hX]at q3;(try dsimp only at q3);omega,fun e=>by rw[e,hY]at q2;(try dsimp only at q2);omega,aH,aH,.inl rfl⟩,by rw[hY];simp only[go_sem, ↓reduceIte,Nat.reduceEqDiff,Nat.reduceAdd,Nat.reduceSub,Nat.reduceLeDiff,reduceCtorEq,k4],aH⟩ ?_
 rintro m env_b st_b ⟨es,f,rfl,hgro,hgood,VU,W9,⟨o,w,yp,gw,gX,go,n1,n2,n3,vo,vw,sw⟩,gY,bn⟩ eS
 have b0:=eS 0 (by kernel_rfl)
 have b2:=eS 2 (by kernel_rfl)
 have b3:=eS 3 (by kernel_rfl)
 have b9:=eS 9 (by kernel_rfl)
 have Gs:=eS 12 (by kernel_rfl)
 rw[<-hX]at Gs
 rw[<-hY]at b9
 simp only[go_sem, ↓reduceIte,Nat.reduceEqDiff,Nat.reduceAdd,Nat.reduceSub,Nat.reduceLeDiff,reduceCtorEq,ck]at b0 b2 b3 b9 Gs
 clear eS
 have hA:=jL hP (es:=es) es.length (Nat.le_refl _) hgood
 have YT:=hA.1.pL
 obtain⟨f,rfl⟩:∃f,m=f+1:=⟨m-1,ae⟩
 rw[rQ]at hgro
 have eH:=Db s hP _ hA
 rw[show tR (ee s (dn s es es.length)) s.aD.aj.length (jK (dn s es es.length))=kJ s (dn s es es.length)from rfl]at eH
 obtain⟨L,hL⟩:∃L,kJ s (dn s es es.length)=L:=⟨_,rfl⟩
 rw[hL]at hgro eH
 have kD:(L.map ab).length=L.length:=by simp
 have hptr:=Jk gX go
 have xv:X.bq<st_b.next:=by rw[hX];exact bn
 have vX:=bZ xv
 have vY:=bZ (i:=Y) (n:=st_b.next) (by rw[hY];(try dsimp only);omega)
 have vO:=bZ vo
 have vW:=bZ vw
 have e1:(o=w)=False/\(w=o)=False:=⟨eq_false n1,eq_false fun e=>n1 e.symm⟩
 have e2:(o=X)=False/\(X=o)=False:=⟨eq_false n2,eq_false fun e=>n2 e.symm⟩
 have e3:(o=Y)=False/\(Y=o)=False:=⟨eq_false n3,eq_false fun e=>n3 e.symm⟩
 have e4:(X=Y)=False/\(Y=X)=False:=⟨eq_false hXY,eq_false fun e=>hXY e.symm⟩
 have e5:(X=w)=False/\(w=X)=False:=by
  have:X≠w:=fun e=>by rw[<-e,hX]at sw;(try dsimp only at sw);revert sw;decide
  exact⟨eq_false this,eq_false fun e=>this e.symm⟩
 have e6:(Y=w)=False/\(w=Y)=False:=by
  have:Y≠w:=fun e=>by rw[<-e,hY]at sw;(try dsimp only at sw);revert sw;decide
  exact⟨eq_false this,eq_false fun e=>this e.symm⟩
 have fzW:∀g:Rows,g w=some ⟨true,3,es.map ab⟩->iu g 5 (.own w 0 es.length)=some (.sl (es.map ab)):=fun g h=>eT (e:=ab) h rfl fun x=>by simp[ab,bx,cw,ej]
 have fzO:∀g:Rows,g o=some ⟨true,3,(dn s es es.length).map ab⟩->iu g 4 (.own o 0 (dn s es es.length).length)=some (.sl ((dn s es es.length).map ab)):=fun g h=>eT (e:=ab) h rfl fun x=>by simp[ab,bx,cw,ej]
 have hmw:(es.map ab).length=es.length:=by simp
 (try((repeat(revert N;apply Pn.out));refine wk (tw @b0 (tw @Gs @vX)) ?_;(repeat(apply Pn.mk;intro N hN))))
 refine .inl ⟨_,aw.x eH (S5 (by simp only[ck,aP]) hptr),?_⟩
 apply hN
 clear hN N
 have hmx:(dn s es es.length).length<=500:=YT
 have hgW:=fzW (bI st_b.get Y ⟨true,1,[[.own o 0 (dn s es es.length).length]]⟩) (sd (tw @e6 @gw))
 have YU:=fzO (bI st_b.get Y ⟨true,1,[[.own o 0 (dn s es es.length).length]]⟩) (sd (tw @e3 @go))
 by_cases OZ:L.length=0
 ·rw[if_pos OZ]at hgro
  have hd:decide ((L.length:Int)=0)=true:=decide_eq_true ae
  have tc:decide (L.length=0)=true:=decide_eq_true OZ
  (try((repeat(revert N;apply Pn.out));refine wk (tw @b0 (tw @b2 (tw @b3 (tw @b9 (tw @Gs (tw @yp (tw @gX (tw @gY (tw @kD (tw @hd (tw @tc (tw @vX (tw @vY @e4))))))))))))) ?_;(repeat(apply Pn.mk;intro N hN))))
  exact⟨[.own w 0 es.length,.agg [.own o 0 (dn s es es.length).length],.bool true,.int .i64 0],sd @b9,_,by simp only[hZ,fo,bx,cw,l5,hgW,YU,gj,ej,Option.map_some]<;>rfl,true,by rw[ET,<-hgro]⟩
 have VR:decide ((L.length:Int)=0)=false:=decide_eq_false ae
 have W4:decide (L.length=0)=false:=decide_eq_false OZ
 rw[if_neg OZ]at hgro
 by_cases um:(steps:Int)<=(es.length:Int)
 ·rw[if_pos ae]at hgro
  (try((repeat(revert N;apply Pn.out));refine wk (tw @b0 (tw @b2 (tw @b3 (tw @b9 (tw @Gs (tw @yp (tw @gX (tw @gY (tw @kD (tw @VR (tw @W4 (tw @um (tw @vX (tw @vY @e4)))))))))))))) ?_;(repeat(apply Pn.mk;intro N hN))))
  exact⟨[.own w 0 es.length,.agg [.own o 0 (dn s es es.length).length],.bool false,.int .i64 0],sd @b9,_,by simp only[hZ,fo,bx,cw,l5,hgW,YU,gj,ej,Option.map_some]<;>rfl,false,by rw[ET,<-hgro]⟩
 rw[if_neg ae]at hgro
 obtain⟨j,hj⟩:∃j,tH dX es.length L.length=j:=⟨_,rfl⟩
 have iX:j<L.length:=by rw[<-hj];exact uP ae
 rw[hj]at hgro
 (try((repeat(revert N;apply Pn.out));refine wk (tw @b0 (tw @b2 (tw @b3 (tw @b9 (tw @Gs (tw @yp (tw @gX (tw @gY (tw @kD (tw @VR (tw @W4 (tw @um @fc)))))))))))) ?_;(repeat(apply Pn.mk;intro N hN))))
 refine nH (fun e st=>∃n,st=⟨st_b.get,n⟩/\st_b.next<=n/\e 0=.ef (ck s)/\e 2=.sl (dX.map aM)/\e 3=.int .i64 (steps:Int)/\e 9=.ptr Y 0 0/\e 12=.ptr X 0 0/\e 13=.own w 0 es.length/\e 14=.sl (L.map ab)/\e 15=.int .i64 (j:Int)) ?_ ?_
 ·rintro e st ⟨n,rfl,hn,c0,c2,c3,c9,xt,G1,c14,c15⟩
  apply hN
  clear hN N
  have l7:=fM iX
  have ny:(j:Int)<(L.length:Int):=ae
  have Fj:aA L j∈kJ s (dn s es es.length):=by rw[hL];exact fH iX
  have pw:=fun σ h1 h2=>Mc (X:=X) (o:=o) (l:=dn s es es.length) (σ:=σ) ae (aA L j) h1 h2
  obtain⟨x,hx⟩:∃x,aA L j=x:=⟨_,rfl⟩
  rw[hx]at l7 hgro Fj pw
  rw[ab]at l7 pw
  (try((repeat(revert N;apply Pn.out));refine wk (tw @c0 (tw @c2 (tw @c3 (tw @c9 (tw @xt (tw @G1 (tw @c14 (tw @c15 (tw @l7 (tw @kD @ny)))))))))) ?_;(repeat(apply Pn.mk;intro N hN))))
  refine .inr (ay _ _ _ _ _ (fun r σ2 Ax=>?_) (pw _ (sd @gX) (sd @go)))
  obtain⟨pw,hK⟩:=Ax
  obtain⟨g2,x2⟩:=σ2
  (try dsimp only at pw hK)
  have Pa:=hK.1
  (try dsimp only at Pa)
  have kX:=(hK.2 X aH).trans gX
  have kY:=(hK.2 Y (by rw[hY];(try dsimp only);omega)).trans gY
  have kW:=(hK.2 w aH).trans gw
  (try dsimp only at kX kY kW)
  have wX:=bZ (i:=X) (n:=x2) ae
  have wY:=bZ (i:=Y) (n:=x2) (by rw[hY];(try dsimp only);omega)
  have wW:=bZ (i:=w) (n:=x2) ae
  apply hN
  clear hN N
  rcases pw with⟨h5,rfl⟩|⟨h5,o2,rfl,p1,p2,p3⟩
  ·rw[if_pos h5]at hgro
   (try((repeat(revert N;apply Pn.out));refine wk (tw @c0 (tw @c2 (tw @c3 (tw @c9 (tw @xt (tw @G1 (tw @kY (tw @wX (tw @wY @wW))))))))) ?_;(repeat(apply Pn.mk;intro N hN))))
   exact⟨[.bj,.agg [.bj],.bool false,.int .i64 4],sd @c9,_,by simp only[hZ,fo,bx,cw,l5,jH,gj,ej,Option.map_some]<;>rfl,false,by rw[ET,<-hgro]⟩
  ·rw[if_neg ae]at hgro
   (try dsimp only at p1 p2 p3)
   have wo:=bZ (i:=o2) (n:=x2) p3
   have oX:=ei (a:=X) (b:=o2) ae
   have oY:=ei (a:=Y) (b:=o2) (by rw[hY];(try dsimp only);omega)
   have oW:=ei (a:=w) (b:=o2) ae
   have oM:=F0 s es x
   have qZ:=kn x (dn s es es.length)
   have LJ:(es++[x]).length=es.length+1:=by simp
   have qW:=hgood.add Fj h5
   have hes1:es.length<=16777215:=ae
   have E0:(es++[x]).map ab=es.map ab++[ab x]:=by simp
   rw[ab]at E0
   (try((repeat(revert N;apply Pn.out));refine wk (tw @c0 (tw @c2 (tw @c3 (tw @c9 (tw @xt (tw @G1 (tw @kX (tw @kY (tw @kW (tw @wX (tw @wY (tw @wW (tw @wo (tw @oX (tw @oY (tw @oW (tw @e4 (tw @e5 (tw @e6 (tw @l7 (tw @kD (tw @ny (tw @c14 (tw @c15 (tw @hmw @hes1))))))))))))))))))))))))) ?_;(repeat(apply Pn.mk;intro N hN))))
   refine⟨f,ae,es++[x],f,rfl,hgro,qW,by rw[LJ];omega,by rw[LJ,oM,qZ];omega,⟨o2,⟨81015006,x2+1+1+1⟩,by rw[LJ];simp only[go_sem, ↓reduceIte,Nat.reduceEqDiff,Nat.reduceAdd,Nat.reduceSub,Nat.reduceLeDiff,reduceCtorEq]<;>rfl,by rw[E0];simp only[go_sem, ↓reduceIte,Nat.reduceEqDiff,Nat.reduceAdd,Nat.reduceSub,Nat.reduceLeDiff,reduceCtorEq]<;>rfl,by rw[LJ,oM];simp only[go_sem, ↓reduceIte,Nat.reduceEqDiff,Nat.reduceAdd,Nat.reduceSub,Nat.reduceLeDiff,reduceCtorEq,wX,e5]<;>rfl,by rw[LJ,oM];simp only[go_sem, ↓reduceIte,Nat.reduceEqDiff,Nat.reduceAdd,Nat.reduceSub,Nat.reduceLeDiff,reduceCtorEq,wo,oX,oW,p1],fun e=>by rw[e]at p3;(try dsimp only at p3);omega,fun e=>by rw[e]at p2;omega,fun e=>by rw[e,hY]at p2;(try dsimp only at p2);omega,aH,aH,.inr rfl⟩,sd (tw @wY (tw @e4 (tw @e6 @kY))),aH⟩
 ·intro N hN
  by_cases GA:dX.length=0
  ·have RI:j=0:=by rw[<-hj,tH,if_pos GA]
   have hsn:¬(0:Int)<(dX.length:Int):=ae
   subst RI
   (try((repeat(revert N;apply Pn.out));refine wk (tw @b0 (tw @b2 (tw @b3 (tw @b9 (tw @Gs (tw @yp (tw @fc @hsn))))))) ?_;(repeat(apply Pn.mk;intro N hN))))
   exact⟨_,rfl,aH,sd (tw @b0 @ck.eq_1),sd @b2,sd @b3,sd @b9,sd @Gs,sd @yp,sd @Nat.zero_add,sl @Nat.zero_add⟩
  ·have hsn:(0:Int)<(dX.length:Int):=ae
   have TM:((dX.length:Int)=0)=False:=eq_false ae
   have Tn:((L.length:Int)=0)=False:=eq_false ae
   have LF:=o9 es.length dX.length
   have MS:es.length % dX.length<dX.length:=Nat.mod_lt _ ae
   have hdi:((es.length % dX.length:Nat):Int)<(dX.length:Int):=ae
   have Kk:=Dw MS
   have TF:=(hs (dX.getD (es.length % dX.length) 0) (by rw[List.getD_eq_getElem?_getD,List.getElem?_eq_getElem MS];exact List.getElem_mem MS)).1
   have VV:(dX.getD (es.length % dX.length) 0).tmod (L.length:Int)=(j:Int):=by
    rw[<-hj,tH,if_neg GA]
    have h9:=o9 (dX.getD (es.length % dX.length) 0).toNat L.length
    rwa [Int.toNat_of_nonneg TF]at h9
   generalize dX.getD (es.length % dX.length) 0=z at *
   generalize es.length % dX.length=d at *
   (try((repeat(revert N;apply Pn.out));refine wk (tw @b0 (tw @b2 (tw @b3 (tw @b9 (tw @Gs (tw @yp (tw @fc (tw @hsn (tw @TM (tw @Tn (tw @kD (tw @LF (tw @hdi (tw @Kk @VV)))))))))))))) ?_;(repeat(apply Pn.mk;intro N hN))))
   exact⟨_,rfl,aH,sd (tw @b0 @ck.eq_1),sd @b2,sd @b3,sd @b9,sd @Gs,sd @yp,sd @Nat.zero_add,sd @VV⟩
end Go.Proofs.YtainmfbpilopaaaGreatDoor.V

namespace Go.Proofs.YtainmfbpilopaaaGreatDoor.V
open Go.RowKit
def pd (w:World) (g t:Nat) (s:ByteArray):Prop:=∃(a:Addr) (c:Array Value) (ty ty0:TypeId),w.heap[g]? =some (.cells #[.iface t (.pointer (some a))] ty0 (0,0))/\w.heap[a.block]? =some (.cells c ty (0,0))/\w.cell? a=some (.string s)
def yM (g t:Nat) (s:ByteArray):Row:=⟨false,1,[[.err g t s]]⟩
def AJ (x y t:Nat) (s u:ByteArray):Rows:=fun id=>if id=rP x then some (yM x t s)else if id=rP y then some (yM y t u)else none
def J2 (x y:Nat):Names:=fun id=>if id=rP x then some ⟨x,1,1,none⟩else if id=rP y then some ⟨y,1,1,none⟩else none
variable {P:Program} {w:World} {ι:Names}
theorem pd.eX {g t:Nat} {s:ByteArray} (h:pd w g t s):∃v,w.cell? ⟨g,0,none⟩=some v/\lr P w (fun b=>b<w.heap.size) (.err g t s) v:=by
 obtain⟨a,c,ty,ty0,h1,h2,h3⟩:=h
 have hc:w.cell? ⟨g,0,none⟩=some (.iface t (.pointer (some a))):=by simp[World.cell?,h1]
 exact⟨_,hc,.err g t s a c ty (Array.getElem?_eq_some_iff.1 h1).1 hc (Array.getElem?_eq_some_iff.1 h2).1 h2 h3⟩
theorem pd.obj {g t:Nat} {s:ByteArray} (h:pd w g t s):iM P w (fun b=>b<w.heap.size) ι ⟨g,1,1,none⟩ (yM g t s):=by
 obtain⟨v,hv,hi⟩:=h.eX (P:=P)
 obtain⟨a,c,ty,ty0,h1,_⟩:=h
 refine lV.obj ⟨rfl,⟨_,_,h1,rfl⟩,Nat.le_refl _,?_,?_,?_⟩ rfl
 ·intro cs ek
  rw[List.mem_singleton.1 ek];rfl
 ·intro cs ek a ha
  rw[List.mem_singleton.1 ek]at ha
  rw[List.mem_singleton.1 ha];rfl
 ·intro i j cs a hi hj
  cases i with
  |zero=>
   simp[yM]at hi
   subst hi
   cases j with
   |zero=>
    simp at hj
    subst hj
    exact⟨v,by simpa using hv,.eX _ _ hi⟩
   |succ j=>simp at hj
  |succ i=>simp[yM]at hi
theorem S6 {x y:Nat} (h:x≠y):rP y≠rP x:=fun e=>by
 have:=congrArg Id.site e
 simp only[rP]at this
 omega
theorem SV {x y t:Nat} {s u:ByteArray} (iI:x≠y) (h1:pd w x t s) (h2:pd w y t u):ig P w.heap.size (fun b=>b<w.heap.size) (J2 x y) (AJ x y t s u) w:=by
 refine⟨Nat.le_refl _,fun _ h=>h,fun id r h=>?_,fun id lG r r' B B' h h' hw=>?_⟩
 ·unfold AJ at h
  unfold J2
  split at h
  ·rename_i e
   injection h with h
   subst h
   rw[if_pos e]
   exact⟨_,rfl,h1.obj,fun h=>(by cases h),fun h=>(by cases h)⟩
  ·rename_i e
   rw[if_neg e]
   split at h
   ·rename_i e2
    injection h with h
    subst h
    rw[if_pos e2]
    exact⟨_,rfl,h2.obj,fun h=>(by cases h),fun h=>(by cases h)⟩
   ·cases h
 ·exfalso
  unfold AJ at h
  split at h
  ·injection h with h;subst h;cases hw
  ·split at h
   ·injection h with h;subst h;cases hw
   ·cases h
theorem PK (x y:Nat):Used (J2 x y) 1 (fun _=>False):=fun id h=>.inl (by
 unfold J2 at h
 split at h
 ·rename_i e;rw[e];exact Nat.zero_lt_one
 ·split at h
  ·rename_i e;rw[e];exact Nat.zero_lt_one
  ·exact absurd rfl h)
theorem Qs (hm:P.follows .mixedOrders=true) {f:Nat} {args:List AV} {vs:Array Value} {x y t:Nat} {s u:ByteArray} (iI:x≠y) (h:Call P f args ⟨AJ x y t s u,1⟩ fun r _=>r=.bool true)
  (h1:pd w x t s) (h2:pd w y t u) (hA:fY P w (fun b=>b<w.heap.size) (fun _=>none) args vs):
  Calls P f vs w fun e w'=>e=.returned (.bool true)/\Below w.heap.size w w':=by
 have hA':fY P w (fun b=>b<w.heap.size) (J2 x y) args vs:=⟨hA.1,fun j a hj=>by
  obtain⟨v,k1,k2⟩:=hA.2 j a hj
  exact⟨v,k1,k2.frame (fun _ _=>rfl) (fun _ h=>h) fun id B hB=>(by cases hB)⟩⟩
 refine(iP hm h w.heap.size (fun b=>b<w.heap.size) (J2 x y) w vs (SV iI h1 h2) (PK x y) hA').mono ?_
 rintro e w' ⟨r,g',n',D',ι',v,rfl,rfl,ed,hsim,_,_,jd⟩
 exact⟨by rw[fR jd],ed.below⟩
theorem SS (x y t:Nat) (s u:ByteArray):AJ x y t s u (rP x)=some ⟨false,1,[[.err x t s]]⟩:=by unfold AJ;rw[if_pos rfl];rfl
theorem SU {x y:Nat} (h:x≠y) (t:Nat) (s u:ByteArray):AJ x y t s u (rP y)=some ⟨false,1,[[.err y t u]]⟩:=by unfold AJ;rw[if_neg (S6 h),if_pos rfl];rfl
end Go.Proofs.YtainmfbpilopaaaGreatDoor.V

namespace Go.Proofs.YtainmfbpilopaaaGreatDoor.V
open Go.RowKit Go.ChangeShapes Go.WideShapes Go.ChangeAt
theorem KJ {P:Program} {n0 n1 nm:String} {Se Sf:List UInt8} {r:List (String×DataW Unit)} {W:World} {g0 g1:Nat} {ti tp te ts:TypeId} {ms:Array (String×TypeId)} {f:Field}
  (h:laidMet P ((n0,.iface nm (.ptr (.agg [.lit (.string Se)])))::(n1,.iface nm (.ptr (.agg [.lit (.string Sf)])))::r) W)
  (Xa:P.globalNamed n0=some g0) (ht0:(P.globals[g0]?).map (·.type)=some ti) (DU:P.globalNamed n1=some g1) (ht1:(P.globals[g1]?).map (·.type)=some ti)
  (hi:P.underlying ti=some (.interface ms)) (fE:∀u,P.typeName? 3 u=some nm->u=tp)
  (hp:P.underlying tp=some (.pointer te)) (he:P.underlying te=some (.struct #[f])) (hft:f.type=ts) (I3:f.offset=0) (hs:P.underlying ts=some .string) (hc:P.cellsOf te=1) (ek:P.cellsOf ts=1):
  ∃a0 a1:Addr,W.var? P n0=some #[.iface tp (.pointer (some a0))]/\W.var? P n1=some #[.iface tp (.pointer (some a1))]/\pd W g0 tp ⟨Se.toArray⟩/\pd W g1 tp ⟨Sf.toArray⟩:=by
 obtain⟨ps,⟨g0',t0',Yw,f0,p0,q0,Xb,ht0',y8,hd0,⟨OV,t1',cs1,f1,p1,q1,Xc,ht1',tg,LF,_,e1⟩,e0⟩,sD,kQ⟩:=h
 obtain rfl:=Option.some.inj (Xa.symm.trans Xb)
 obtain rfl:=Option.some.inj (DU.symm.trans Xc)
 obtain rfl:=Option.some.inj (ht0.symm.trans ht0')
 obtain rfl:=Option.some.inj (ht1.symm.trans ht1')
 subst e1
 subst e0
 obtain⟨l0⟩:=Yw
 obtain⟨l1⟩:=cs1
 have ok0:∀u v,l0=[.iface u v]->Value.okWide P W .any 0 u v:=fun u v e=>by
  subst e
  exact(kQ g0 0 (by simp[MemPlace.row])).2 u v (by simpa using World.var?_cell Xb y8 0)
 have ok1:∀u v,l1=[.iface u v]->Value.okWide P W .any 0 u v:=fun u v e=>by
  subst e
  exact(kQ g1 0 (by simp[MemPlace.row])).2 u v (by simpa using World.var?_cell Xc tg 0)
 obtain⟨a0,s0,rfl,kZ,GA,Pe,rfl⟩:=errorString_of_trod hi fE hp he hft I3 hs hc ek hd0 ok0
 obtain⟨a1,s1,rfl,sq,Ay,DY,rfl⟩:=errorString_of_trod hi fE hp he hft I3 hs hc ek LF ok1
 have k0:=kQ g0 0 (by simp[MemPlace.row])
 have k1:=kQ g1 0 (by simp[MemPlace.row])
 obtain⟨c0,t0,DT⟩:=(kQ a0.block a0.off (by simp[MemPlace.row])).1
 obtain⟨c1,t1,Tr⟩:=(kQ a1.block a1.off (by simp[MemPlace.row])).1
 have WD:∀{n:String} {g:Nat} {v:Value},P.globalNamed n=some g->W.var? P n=some #[v]->(∃c t,W.heap[g]? =some (.cells c t (0,0)))->∃t,W.heap[g]? =some (.cells #[v] t (0,0)):=fun {n g v} hg hv ⟨c,t,hb⟩=>by
  unfold World.var? at hv
  rw[hg]at hv
  simp only[Option.bind_some,hb,Option.some.injEq]at hv
  exact⟨t,by rw[hb,hv]⟩
 obtain⟨y0,z0⟩:=WD Xa y8 k0.1
 obtain⟨y1,z1⟩:=WD DU tg k1.1
 have str:∀{s:ByteArray} {l:List UInt8},s.data.toList=l->s=⟨l.toArray⟩:=fun {s l} e=>by
  subst e;cases s;simp
 rw[str GA]at kZ
 rw[str Ay]at sq
 exact⟨a0,a1,y8,tg,⟨a0,c0,t0,y0,z0,DT,kZ⟩,⟨a1,c1,t1,y1,z1,Tr,sq⟩⟩
theorem var?_below {P:Program} {n:String} {W W':World} {g:Nat} {x:Array Value} (hg:P.globalNamed n=some g) (hv:W.var? P n=some x) (hb:Below W.heap.size W W'):W'.var? P n=some x:=by
 rw[<-hv]
 unfold World.var? at hv ⊢
 rw[hg]at hv ⊢
 simp only[Option.bind_some]at hv ⊢
 have eG:g<W.heap.size:=by
  rcases Nat.lt_or_ge g W.heap.size with h'|h'
  ·exact h'
  ·rw[Array.getElem?_eq_none h']at hv;cases hv
 rw[hb.block g eG]
def gT:Nat:=0
def gN:Nat:=1
def tE:Nat:=391
def sT:ByteArray:=⟨#[110,111,32,116,105,108,101,32,99,97,110,32,97,116,116,97,99,104]⟩
def sN:ByteArray:=⟨#[116,111,111,32,109,97,110,121,32,116,105,108,101,115]⟩
theorem sTN:sT≠sN:=by decide
theorem MH:Tryz.prog.globalNamed "loop.example/g01081/impl.errTerminal" =some gT:=by kernel_rfl
theorem MG:Tryz.prog.globalNamed "loop.example/g01081/impl.errNoSpace" =some gN:=by kernel_rfl
theorem Rz:(Tryz.prog.globals[gT]?).map (·.type)=some 208:=by kernel_rfl
theorem Ry:(Tryz.prog.globals[gN]?).map (·.type)=some 208:=by kernel_rfl
theorem Uz:Tryz.prog.cellsOf 417=1:=by kernel_rfl
theorem UC:Tryz.prog.cellsOf 9=1:=by kernel_rfl
theorem Jr: "*" ++ "errors.errorString" = "*errors.errorString" :=by decide
theorem UA (u:TypeId) (h:Tryz.prog.typeName? 3 u=some "*errors.errorString"):u=391:=
 typeName_ptr_named (nm:= "errors.errorString") (by rw[Jr];kernel_rfl) (by kernel_rfl) (by decide) u (by rw[Jr];exact h)
theorem KK {W:World} {r:List (String×DataW Unit)} (h:laidMet Tryz.prog (("loop.example/g01081/impl.errTerminal",Rows.laid_loop_example_g01081_impl_errTerminal)::("loop.example/g01081/impl.errNoSpace",Rows.laid_loop_example_g01081_impl_errNoSpace)::r) W):
  ∃a0 a1:Addr,W.var? Tryz.prog "loop.example/g01081/impl.errTerminal" =some #[.iface tE (.pointer (some a0))]/\W.var? Tryz.prog "loop.example/g01081/impl.errNoSpace" =some #[.iface tE (.pointer (some a1))]/\pd W gT tE sT/\pd W gN tE sN:=
 KJ h MH Rz MG Ry Tryz.underlying208 UA Tryz.underlying391 Tryz.underlying417 rfl rfl Tryz.underlying9 Uz UC
end Go.Proofs.YtainmfbpilopaaaGreatDoor.V

namespace Go.Proofs.YtainmfbpilopaaaGreatDoor.V
open Go.RowKit
attribute [local irreducible] ea wpOps fB Call
theorem X8 (dX:List Int) (hs:∀x∈dX,0<=x/\x<=1000) (qZ:dX.length<=200) (n d:Nat) (hn:0<n):aw Tryz.prog 209 [.int .i64 (n:Int),.int .i64 (d:Int),.ef [.sl (dX.map aM)]] (.int .i64 (tH dX d n:Int)):=by
 refine aw.body fx rfl fun fD n0=>?_
 clear fD
 have fc:(dX.map aM).length=dX.length:=by simp
 by_cases GA:dX.length=0
 ·have hz:decide ((dX.length:Int)=0)=true:=decide_eq_true ae
  (try((repeat(revert N;apply Pn.out));refine wk (tw @fc @hz) ?_;(repeat(apply Pn.mk;intro N hN))))
  exact eC (b:=0) (.inl rfl) (sd @Nat.zero_add) (by rw[tH,if_pos GA];rfl)
 ·have hz:decide ((dX.length:Int)=0)=false:=decide_eq_false ae
  have TM:((dX.length:Int)=0)=False:=eq_false ae
  have Tn:((n:Int)=0)=False:=eq_false ae
  have LF:=o9 d dX.length
  have MS:d % dX.length<dX.length:=Nat.mod_lt _ ae
  have hdi:((d % dX.length:Nat):Int)<(dX.length:Int):=ae
  have Kk:=Dw MS
  have TF:=(hs (dX.getD (d % dX.length) 0) (by rw[List.getD_eq_getElem?_getD,List.getElem?_eq_getElem MS];exact List.getElem_mem MS)).1
  have VV:(dX.getD (d % dX.length) 0).tmod (n:Int)=(tH dX d n:Int):=by
   rw[tH,if_neg GA]
   have h9:=o9 (dX.getD (d % dX.length) 0).toNat n
   rwa [Int.toNat_of_nonneg TF]at h9
  generalize dX.getD (d % dX.length) 0=z at *
  generalize d % dX.length=dd at *
  (try((repeat(revert N;apply Pn.out));refine wk (tw @fc (tw @hz (tw @TM (tw @Tn (tw @LF (tw @hdi (tw @Kk @VV))))))) ?_;(repeat(apply Pn.mk;intro N hN))))
  exact eC (.inl rfl) (sd @VV) rfl
def ib (g:Rows):Prop:=(∃b,g (rP 0)=some ⟨b,1,[[.err 0 tE sT]]⟩)/\∃b,g (rP 1)=some ⟨b,1,[[.err 1 tE sN]]⟩
theorem ib.frame {g g':Rows} (h:ib g) {n:Nat} (hn:1<=n) (hf:∀x:Id,x.bq<n->x.site=999000000∨x.site=999000001->g' x=g x):ib g':=by
 obtain⟨⟨b,h1⟩,c,h2⟩:=h
 exact⟨⟨b,(hf (rP 0) hn (.inl rfl)).trans h1⟩,c,(hf (rP 1) hn (.inr rfl)).trans h2⟩
theorem jP (k:Nat):(rP k).bq=0:=rfl
def Wf (σ:ax) (c T O:Id) (s:au) (dX:List Int) (es:List aa) (r:AV) (σ':ax):Prop:=
 σ.next<=σ'.next/\(∀x:Id,x.bq<σ.next->x≠T->x≠O->σ'.get x=σ.get x)/\
 ((kJ s (dn s es es.length)=[]/\r=.fP [.agg [.int .i64 0,.int .i64 0,.int .i64 0],.err 0 tE sT]/\rJ σ'.get σ'.next c T O s (s.bH.aj++es))∨(kJ s (dn s es es.length)≠[]/\500<=(dn s es es.length).length/\r=.fP [.agg [.int .i64 0,.int .i64 0,.int .i64 0],.err 1 tE sN])∨(kJ s (dn s es es.length)≠[]/\(dn s es es.length).length<500/\r=.fP [.agg (ab (aA (kJ s (dn s es es.length)) (tH dX es.length (kJ s (dn s es es.length)).length))),.jB]/\rJ σ'.get σ'.next c T O s (s.bH.aj++(es++[aA (kJ s (dn s es es.length)) (tH dX es.length (kJ s (dn s es es.length)).length)]))))
theorem ND {σ:ax} {c T O B:Id} {s:au} (hP:mj s) {es:List aa} (hG:iS s es) (h:rJ σ.get σ.next c T O s (s.bH.aj++es)) (hE:ib σ.get) (sC:1<=σ.next)
  {dX:List Int} (hs:∀x∈dX,0<=x/\x<=1000) (qZ:dX.length<=200) {bw:Bool} (hB:σ.get B=some ⟨bw,1,[[.sl (dX.map aM)]]⟩) (VN:B.bq<σ.next):
  Call Tryz.prog 165 [.ptr c 0 0,.fn 209 [.ptr B 0 0],.int .i64 (es.length:Int)] σ (Wf σ c T O s dX es):=by
 refine vD (cfM [(3,2),(5,2)]) rfl fun fD=>?_
 clear fD
 have hT:1<=s.aE:=(dY hP.Gj).1
 have hA:=jL hP (es:=es) es.length (Nat.le_refl _) hG
 have Gt:=rl hP (es:=es) es.length (Nat.le_refl _) hG
 rw[List.take_length]at Gt
 have kF:iv s (s.bH.aj++es)=iv s (dn s es es.length):=by
  funext q
  unfold iv
  exact qT (fun t=>Gt.fit q t) _
 have lU:=oc s es es.length (Nat.le_refl _)
 have AM:=hA.1.pL
 have v1:=bZ (i:=rP 0) (n:=σ.next) (by rw[jP];omega)
 have v2:=bZ (i:=rP 1) (n:=σ.next) (by rw[jP];omega)
 have v3:=bZ h.o.cv
 have v4:=bZ h.o.tv
 have v5:=bZ h.o.ov
 have v6:=bZ VN
 have fE:=h.o.row
 have GB:=h.o.tl
 obtain⟨⟨b0,hE0⟩,b1,WG⟩:=hE
 (try((repeat(revert N;apply Pn.out));refine wk (tw @fE @v3) ?_;(repeat(apply Pn.mk;intro N hN))))
 refine .inr (ay _ _ _ _ _ (fun r σ1 hq=>?_) (Ud (c:=c) (T:=T) (O:=O) (l:=dn s es es.length) ⟨sd (tw @fE @v3),by have:=h.o.cv;(try dsimp only);omega,by have:=h.o.ov;(try dsimp only);omega,by
  obtain⟨en,a1,a2⟩:=h.op
  rw[kF]at a2
  exact⟨en,sd (tw @a1 @v5),a2.frame aH fun x hx _=>by
   have h1:=bZ hx
   simp only[go_sem, ↓reduceIte,Nat.reduceEqDiff,Nat.reduceAdd,Nat.reduceSub,Nat.reduceLeDiff,reduceCtorEq,h1]⟩⟩ hT hP.set hA))
 obtain⟨g1,x1⟩:=σ1
 obtain⟨hn,hf,hL⟩:=hq
 (try dsimp only at hn hf hL)
 have DS:rJ g1 x1 c T O s (s.bH.aj++es):=h.frame ae fun x hx=>by
  have h1:=bZ hx
  have h2:=hf x aH
  simp only[go_sem, ↓reduceIte,Nat.reduceEqDiff,Nat.reduceAdd,Nat.reduceSub,Nat.reduceLeDiff,reduceCtorEq,h1]at h2
  exact h2
 have k0:=hf (rP 0) (by rw[jP];(try dsimp only);omega)
 have k1:=hf (rP 1) (by rw[jP];(try dsimp only);omega)
 have kB:=hf B aH
 have kr:=hf ⟨165000000,σ.next⟩ aH
 simp only[go_sem, ↓reduceIte,Nat.reduceEqDiff,Nat.reduceAdd,Nat.reduceSub,Nat.reduceLeDiff,reduceCtorEq,v1,hE0]at k0
 simp only[go_sem, ↓reduceIte,Nat.reduceEqDiff,Nat.reduceAdd,Nat.reduceSub,Nat.reduceLeDiff,reduceCtorEq,v2,WG]at k1
 simp only[go_sem, ↓reduceIte,Nat.reduceEqDiff,Nat.reduceAdd,Nat.reduceSub,Nat.reduceLeDiff,reduceCtorEq,v6,hB]at kB
 simp only[go_sem, ↓reduceIte,Nat.reduceEqDiff,Nat.reduceAdd,Nat.reduceSub,Nat.reduceLeDiff,reduceCtorEq]at kr
 have Na:=DS.o.row
 have TU:=DS.o.tl
 have w0:=bZ (i:=rP 0) (n:=x1) (by rw[jP];omega)
 have w1:=bZ (i:=rP 1) (n:=x1) (by rw[jP];omega)
 have w2:=bZ (i:=(⟨165000000,σ.next⟩:Id)) (n:=x1) aH
 have w3:=bZ DS.o.cv
 have w4:=bZ DS.o.tv
 have w6:=bZ (i:=B) (n:=x1) ae
 have u0:(rP 0=(⟨165000000,σ.next⟩:Id))=False:=eq_false fun e=>by have:=congrArg Id.bq e;rw[jP]at this;(try dsimp only at this);omega
 have u1:(rP 1=(⟨165000000,σ.next⟩:Id))=False:=eq_false fun e=>by have:=congrArg Id.bq e;rw[jP]at this;(try dsimp only at this);omega
 have base:∀x:Id,x.bq<σ.next->g1 x=σ.get x:=fun x hx=>by
  have h1:=bZ hx
  have h2:=hf x aH
  simp only[go_sem, ↓reduceIte,Nat.reduceEqDiff,Nat.reduceAdd,Nat.reduceSub,Nat.reduceLeDiff,reduceCtorEq,h1]at h2
  exact h2
 apply hN
 clear hN N
 have M1:((s.bH.aj++es).map ab).length=(dn s es es.length).length:=by rw[List.length_map,List.length_append,lU]
 rw[show tR (ee s (dn s es es.length)) s.aD.aj.length (jK (dn s es es.length))=kJ s (dn s es es.length)from rfl]at hL
 have Y1:=NM hP.set hA
 have p0:(rP 0).site=999000000:=rfl
 have p1:(rP 1).site=999000001:=rfl
 rcases hL with⟨hO,rfl⟩|⟨u,rfl,gu,z1,z2,z3,z4⟩
 ·have Pe:decide (((0:Nat):Int)=0)=true:=rfl
  have DY:decide ((0:Int)=0)=true:=rfl
  (try((repeat(revert N;apply Pn.out));refine wk (tw @k0 (tw @kr (tw @w0 (tw @u0 (tw @p0 (tw @Pe @DY)))))) ?_;(repeat(apply Pn.mk;intro N hN))))
  refine fm ?_ ?_
  ·(try((repeat(revert N;apply Pn.out));refine wk (tw @k0 (tw @kr (tw @w0 (tw @u0 @p0)))) ?_;(repeat(apply Pn.mk;intro N hN))))
   exact eo (.inl rfl) (vs:=[.agg [.int .i64 0,.int .i64 0,.int .i64 0],.err 0 tE sT]) (sd @Nat.zero_add) ⟨aH,fun x hx _ _=>by
    have q1:=bZ hx
    simp only[go_sem, ↓reduceIte,Nat.reduceEqDiff,Nat.reduceAdd,Nat.reduceSub,Nat.reduceLeDiff,reduceCtorEq,q1,base x hx],.inl ⟨hO,rfl,h.frame aH fun x hx=>by
     have q1:=bZ hx
     simp only[go_sem, ↓reduceIte,Nat.reduceEqDiff,Nat.reduceAdd,Nat.reduceSub,Nat.reduceLeDiff,reduceCtorEq,q1,base x hx]⟩⟩
  ·(try((repeat(revert N;apply Pn.out));refine wk (tw @k0 (tw @kr (tw @w0 (tw @u0 @p0)))) ?_;(repeat(apply Pn.mk;intro N hN))))
   exact eo (.inl rfl) (vs:=[.agg [.int .i64 0,.int .i64 0,.int .i64 0],.err 0 tE sT]) (sd @Nat.zero_add) ⟨aH,fun x hx _ _=>by
    have q1:=bZ hx
    simp only[go_sem, ↓reduceIte,Nat.reduceEqDiff,Nat.reduceAdd,Nat.reduceSub,Nat.reduceLeDiff,reduceCtorEq,q1,base x hx],.inl ⟨hO,rfl,h.frame aH fun x hx=>by
     have q1:=bZ hx
     simp only[go_sem, ↓reduceIte,Nat.reduceEqDiff,Nat.reduceAdd,Nat.reduceSub,Nat.reduceLeDiff,reduceCtorEq,q1,base x hx]⟩⟩
 ·generalize hO:kJ s (dn s es es.length)=L at *
  have OZ:decide ((L.length:Int)=0)=false:=decide_eq_false ae
  have iI:L≠[]:=fun e=>by rw[e]at z3;simp at z3
  by_cases um:500<=(dn s es es.length).length
  ·have YS:(500:Int)<=((dn s es es.length).length:Int):=ae
   (try((repeat(revert N;apply Pn.out));refine wk (tw @k1 (tw @kr (tw @w1 (tw @w2 (tw @u1 (tw @p1 (tw @OZ (tw @Na (tw @w3 (tw @TU (tw @w4 (tw @M1 @YS)))))))))))) ?_;(repeat(apply Pn.mk;intro N hN))))
   refine fm ?_ ?_
   ·(try((repeat(revert N;apply Pn.out));refine wk (tw @k1 (tw @kr (tw @w1 (tw @w2 (tw @u1 @p1))))) ?_;(repeat(apply Pn.mk;intro N hN))))
    exact eo (.inl rfl) (vs:=[.agg [.int .i64 0,.int .i64 0,.int .i64 0],.err 1 tE sN]) (sd @Nat.zero_add) ⟨aH,fun x hx _ _=>by
     have q1:=bZ hx
     simp only[go_sem, ↓reduceIte,Nat.reduceEqDiff,Nat.reduceAdd,Nat.reduceSub,Nat.reduceLeDiff,reduceCtorEq,q1,base x hx],.inr (.inl ⟨by rw[hO];exact iI,um,rfl⟩)⟩
   ·(try((repeat(revert N;apply Pn.out));refine wk (tw @k1 (tw @kr (tw @w1 (tw @w2 (tw @u1 @p1))))) ?_;(repeat(apply Pn.mk;intro N hN))))
    exact eo (.inl rfl) (vs:=[.agg [.int .i64 0,.int .i64 0,.int .i64 0],.err 1 tE sN]) (sd @Nat.zero_add) ⟨aH,fun x hx _ _=>by
     have q1:=bZ hx
     simp only[go_sem, ↓reduceIte,Nat.reduceEqDiff,Nat.reduceAdd,Nat.reduceSub,Nat.reduceLeDiff,reduceCtorEq,q1,base x hx],.inr (.inl ⟨by rw[hO];exact iI,um,rfl⟩)⟩
  ·have YS:decide ((500:Int)<=((dn s es es.length).length:Int))=false:=decide_eq_false ae
   obtain⟨j,hj⟩:∃j,tH dX es.length L.length=j:=⟨_,rfl⟩
   have iX:j<L.length:=by rw[<-hj];exact uP z3
   have ny:(j:Int)<(L.length:Int):=ae
   have TP:=X8 dX hs qZ L.length es.length z3
   rw[hj]at TP
   have l7:=fM iX
   have Fj:aA L j∈kJ s (dn s es es.length):=by rw[hO];exact fH iX
   obtain⟨x,hx⟩:∃x,aA L j=x:=⟨_,rfl⟩
   rw[hx]at l7 Fj
   obtain⟨hxt,Zi⟩:=FW Fj
   have Zk:xG x.aI=true:=by
    unfold ee at Zi
    simp only[Bool.and_eq_true]at Zi
    exact Zi.1.1
   have Ks:dm (s.bH.aj++es) x.aI<0:=Gt.no (nQ hA (fun _ h=>h) Zi)
   rw[ab]at l7
   have kD:(L.map ab).length=L.length:=by simp
   (have zF:=tw @k1 (tw @kr (tw @kB (tw @w1 (tw @w2 (tw @w6 (tw @u1 (tw @p1 (tw @OZ (tw @Na (tw @w3 (tw @TU (tw @w4 (tw @M1 (tw @YS (tw @gu (tw @kD (tw @ny @l7)))))))))))))))));(repeat(first|((repeat(revert N;apply Pn.out));refine wk zF ?_;(repeat(apply Pn.mk;intro N hN)))|((try apply Or.inl);refine⟨_,aw.x (TP) (sd zF),?_⟩;apply hN;clear hN N)));try clear zF)
   have hF:∀q,0<=eM (s.bH.aj++es) q->eE s.aD (eM (s.bH.aj++es) q)=true:=fun q h=>by
    have e:=Gt.at_ q
    (try dsimp only at e)
    rw[e]at h ⊢
    exact gy.Bg hA q h
   have Y4:=fun(σ:ax) (h:rJ σ.get σ.next c T O s (s.bH.aj++es))=>X2 h hP.set hF x.aI Zk x.aY hxt Ks
   rw[ad]at Y4
   refine .inr (ay _ _ _ _ _ (fun r σ2 hq=>?_) (Y4 _ (DS.frame aH fun y hy=>by
    have q:=bZ hy
    simp only[go_sem, ↓reduceIte,Nat.reduceEqDiff,Nat.reduceAdd,Nat.reduceSub,Nat.reduceLeDiff,reduceCtorEq,q])))
   obtain⟨g2,x2⟩:=σ2
   obtain⟨rfl,Z6,n3,f3⟩:=hq
   (try dsimp only at Z6 n3 f3)
   have C1:=h.o.tv
   have EX:=h.o.ov
   have kr2:=f3 ⟨165000000,σ.next⟩ aH (fun e=>by rw[<-e]at C1;(try dsimp only at C1);omega) (fun e=>by rw[<-e]at EX;(try dsimp only at EX);omega)
   have kx2:=f3 ⟨165006008,x1+1+1+1⟩ aH (fun e=>by rw[<-e]at C1;(try dsimp only at C1);omega) (fun e=>by rw[<-e]at EX;(try dsimp only at EX);omega)
   simp only[go_sem, ↓reduceIte,Nat.reduceEqDiff,Nat.reduceAdd,Nat.reduceSub,Nat.reduceLeDiff,reduceCtorEq,w2,kr]at kr2
   simp only[go_sem, ↓reduceIte,Nat.reduceEqDiff,Nat.reduceAdd,Nat.reduceSub,Nat.reduceLeDiff,reduceCtorEq]at kx2
   apply hN
   clear hN N
   (try((repeat(revert N;apply Pn.out));refine wk (tw @kr2 @kx2) ?_;(repeat(apply Pn.mk;intro N hN))))
   refine eo (.inl rfl) (vs:=[.agg [.int .i64 x.aI.eV,.int .i64 x.aI.eQ,.int .i64 x.aY],.jB]) (sd @Nat.zero_add) ⟨aH,fun y hy TZ hyO=>?_,.inr (.inr ⟨by rw[hO];exact iI,ae,by rw[hO,hj,hx];rfl,?_⟩)⟩
   ·have q1:=bZ hy
    have q2:=f3 y aH TZ hyO
    have q3:=bZ (i:=y) (n:=x1) ae
    simp only[go_sem, ↓reduceIte,Nat.reduceEqDiff,Nat.reduceAdd,Nat.reduceSub,Nat.reduceLeDiff,reduceCtorEq,q3]at q2
    simp only[go_sem, ↓reduceIte,Nat.reduceEqDiff,Nat.reduceAdd,Nat.reduceSub,Nat.reduceLeDiff,reduceCtorEq,q1]
    exact q2.trans (base y hy)
   ·rw[hO,hj,hx,<-List.append_assoc]
    have e6:∀y:Id,y.bq<σ.next->(y=(⟨165000000,σ.next⟩:Id))=False:=fun y hy=>eq_false fun e=>by rw[e]at hy;(try dsimp only at hy);omega
    have u6c:=e6 c h.o.cv
    have u6T:=e6 T C1
    have u6O:=e6 O EX
    obtain⟨en,a1,a2⟩:=Z6.op
    refine⟨Z6.o.three aH (sd @u6c) (sd @u6T) (sd @u6O),en,sd (tw @u6O @a1),a2.frame aH fun y hy ⟨k,r,hk⟩=>?_⟩
    have hne6:(y=(⟨165000000,σ.next⟩:Id))=False:=eq_false fun e=>by
     rw[e,kr2]at hk
     simp at hk
    simp only[go_sem, ↓reduceIte,Nat.reduceEqDiff,Nat.reduceAdd,Nat.reduceSub,Nat.reduceLeDiff,reduceCtorEq,hne6]
end Go.Proofs.YtainmfbpilopaaaGreatDoor.V

namespace Go.Proofs.YtainmfbpilopaaaGreatDoor.V
open Go.RowKit Go.Extern.Stop Go.Stop Go.Extern
theorem Fw (v:Value) (w:World):(Extern.ReflectliteType.typeOf #[.iface 391 v]).run Tryz.prog w=.ok (.iface 309 (.agg #[.pointer (some ⟨5,391,none⟩)])) w:=by kernel_rfl
def CG:Array Value->Sem Value:=Extern.ReflectliteType.method fun t=>do Extern.Rtype.noPackHeld "Comparable" t;pure (.bool (<-typeInfo t).comparable)
theorem uw (w:World):(CG #[.agg #[.pointer (some ⟨5,391,none⟩)]]).run Tryz.prog w=.ok (.bool true) w:=by kernel_rfl
theorem mu (v:Value) (w:World):(Go.method 529 309 v "Comparable").run Tryz.prog w=.ok (339,v) w:=by kernel_rfl
theorem Nk:(Tryz.prog.info? 391).map (·.comparable)=some true:=by kernel_rfl
theorem Nl:(Tryz.prog.info? 417).map (·.size)=some 1:=by kernel_rfl
theorem XW (v:Value) (xT:TypeId) (w:World):(Instr.typeAssert (.iface 391 v) xT 311 true).run Tryz.prog w=.ok (.tuple #[.nilIface,.bool false]) w:=run_typeAssert_lacksB Tryz.underlying311 (by kernel_rfl) (by kernel_rfl) v xT w
theorem KT (v:Value) (xT:TypeId) (w:World):(Instr.typeAssert (.iface 391 v) xT 314 true).run Tryz.prog w=.ok (.tuple #[.nilIface,.bool false]) w:=run_typeAssert_lacksB Tryz.underlying314 (by kernel_rfl) (by kernel_rfl) v xT w
theorem HN (v:Value) (xT:TypeId) (w:World):(Instr.typeAssert (.iface 391 v) xT 316 true).run Tryz.prog w=.ok (.tuple #[.nilIface,.bool false]) w:=run_typeAssert_lacksB Tryz.underlying316 (by kernel_rfl) (by kernel_rfl) v xT w
theorem Ql (a:Addr) (w:World):
  Calls Tryz.prog 166 #[.iface 391 (.pointer (some a)),.iface 391 (.pointer (some a))] w fun e w'=>e=.returned (.bool true)/\w'=w:=by
 obtain⟨i,hi,Tt⟩:=Option.map_eq_some_iff.1 Nk
 obtain⟨j,hj,hjs⟩:=Option.map_eq_some_iff.1 Nl
 have h8:=@run_callFunc_extern Tryz.prog 211 _ Extern.ReflectliteType.typeOf Tryz.func211 (by kernel_rfl) (by kernel_rfl) (by kernel_rfl) (by kernel_rfl)
 have h32:=@run_callFunc_extern Tryz.prog 339 _ CG Tryz.func339 (by kernel_rfl) (by kernel_rfl) (by kernel_rfl) (by kernel_rfl)
 have tT:=Fw
 have cT:=uw
 have mR:=mu
 have heq:=run_eql_iface_ptr_same (P:=Tryz.prog) w a Tryz.underlying208 Tryz.underlying391 hi Tt hj
 go_enter Tryz.func166,Tryz.ntmps166
 go_wp2
 refine wp_loop_rounds 1 ?_
 rw[rounds_succ]
 go_wp2
 go_ret
 exact⟨rfl,rfl⟩
theorem T8 (b:Addr) (w:World):
  Calls Tryz.prog 166 #[.nilIface,.iface 391 (.pointer (some b))] w fun e w'=>e=.returned (.bool false)/\w'=w:=by
 have hn:=run_eql_iface_nil_left (P:=Tryz.prog) w 391 (.pointer (some b)) Tryz.underlying208
 go_enter Tryz.func166,Tryz.ntmps166
 go_wp2
 go_ret
 exact⟨rfl,rfl⟩
theorem Nn (a b:Addr) (ca cb:Array Value) (ta tb:TypeId) (w:World) (iI:a≠b) (ha:w.heap[a.block]? =some (.cells ca ta (0,0))) (hb:w.heap[b.block]? =some (.cells cb tb (0,0))):
  Calls Tryz.prog 166 #[.iface 391 (.pointer (some a)),.iface 391 (.pointer (some b))] w fun e w'=>e=.returned (.bool false)/\w'=w:=by
 obtain⟨i,hi,Tt⟩:=Option.map_eq_some_iff.1 Nk
 obtain⟨j,hj,hjs⟩:=Option.map_eq_some_iff.1 Nl
 have h8:=@run_callFunc_extern Tryz.prog 211 _ Extern.ReflectliteType.typeOf Tryz.func211 (by kernel_rfl) (by kernel_rfl) (by kernel_rfl) (by kernel_rfl)
 have h32:=@run_callFunc_extern Tryz.prog 339 _ CG Tryz.func339 (by kernel_rfl) (by kernel_rfl) (by kernel_rfl) (by kernel_rfl)
 have tT:=Fw
 have cT:=uw
 have mR:=mu
 have nE:=XW
 have uE:=KT
 have vE:=HN
 have heq:=run_eql_iface_ptr_other (P:=Tryz.prog) w Tryz.underlying208 Tryz.underlying391 hi Tt hj (by rw[hjs];decide) iI ha hb
 go_enter Tryz.func166,Tryz.ntmps166
 go_wp2
 refine wp_loop_rounds 1 ?_
 rw[rounds_succ]
 go_wp2
 go_ret
 exact⟨rfl,rfl⟩
variable {σ:ax}
theorem Al {w:World} {D:Nat->Prop} {ι:Names} {x y:AV} {vs:Array Value} (h:fY Tryz.prog w D ι [x,y] vs):∃u v,vs= #[u,v]/\du Tryz.prog w D ι x u/\du Tryz.prog w D ι y v:=by
 obtain⟨h1,h2⟩:=h
 obtain⟨u,e1,r1⟩:=h2 0 x rfl
 obtain⟨v,e2,r2⟩:=h2 1 y rfl
 refine⟨u,v,?_,r1,r2⟩
 apply Array.ext
 ·simpa using h1
 ·intro i hi hj
  have:i=0∨i=1:=by simp at hj;omega
  rcases this with rfl|rfl
  ·rw[Array.getElem?_eq_some_iff]at e1;obtain⟨_,e1⟩:=e1;simpa using e1
  ·rw[Array.getElem?_eq_some_iff]at e2;obtain⟨_,e2⟩:=e2;simpa using e2
theorem xJ (g:Nat) (s:ByteArray):Call Tryz.prog 166 [.err g tE s,.err g tE s] σ fun r σ'=>r=.bool true/\σ'=σ:=by
 refine fG fun hs D ι w vs S U A=>?_
 obtain⟨u,v,rfl,r1,r2⟩:=Al A
 obtain⟨a,c,ty,rfl,d1,e1,_⟩:=rm r1
 obtain⟨b,c',ty',rfl,_,e2,_⟩:=rm r2
 rw[e1]at e2
 simp only[Option.some.injEq,Value.iface.injEq,Value.pointer.injEq,true_and]at e2
 subst e2
 refine(Ql a w).mono ?_
 rintro e w' ⟨rfl,rfl⟩
 exact⟨.bool true,σ.get,σ.next,D,ι,.bool true,rfl,⟨rfl,rfl⟩,.refl _ _ _ _,S,U,Nat.le_refl _,.eX _ _ (.bool _)⟩
theorem Cl (g:Nat) (s:ByteArray):Call Tryz.prog 166 [.jB,.err g tE s] σ fun r σ'=>r=.bool false/\σ'=σ:=by
 refine fG fun hs D ι w vs S U A=>?_
 obtain⟨u,v,rfl,r1,r2⟩:=Al A
 rw[zX r1]
 obtain⟨b,c',ty',rfl,_,e2,_⟩:=rm r2
 refine(T8 b w).mono ?_
 rintro e w' ⟨rfl,rfl⟩
 exact⟨.bool false,σ.get,σ.next,D,ι,.bool false,rfl,⟨rfl,rfl⟩,.refl _ _ _ _,S,U,Nat.le_refl _,.eX _ _ (.bool _)⟩
theorem Ec (x y:Nat) (s u:ByteArray) (iI:s≠u):Call Tryz.prog 166 [.err x tE s,.err y tE u] σ fun r σ'=>r=.bool false/\σ'=σ:=by
 refine fG fun hs D ι w vs S U A=>?_
 obtain⟨u1,v,rfl,r1,r2⟩:=Al A
 obtain⟨a,c,ty,rfl,_,_,_,k1,k2⟩:=rm r1
 obtain⟨b,c',ty',rfl,_,_,_,q1,q2⟩:=rm r2
 have pM:a≠b:=fun e=>by
  subst e
  rw[k2]at q2
  simp only[Option.some.injEq,Value.string.injEq]at q2
  exact iI q2
 refine(Nn a b c c' ty ty' w pM k1 q1).mono ?_
 rintro e w' ⟨rfl,rfl⟩
 exact⟨.bool false,σ.get,σ.next,D,ι,.bool false,rfl,⟨rfl,rfl⟩,.refl _ _ _ _,S,U,Nat.le_refl _,.eX _ _ (.bool _)⟩
end Go.Proofs.YtainmfbpilopaaaGreatDoor.V

namespace Go.Proofs.YtainmfbpilopaaaGreatDoor.V
open Go.RowKit
attribute [local irreducible] ea wpOps fB Call
theorem F8 (dX:List Int) (σ:ax):Call Tryz.prog 164 [.sl (dX.map aM)] σ (fun r σ'=>∃B:Id,r=.fn 209 [.ptr B 0 0]/\σ'.get B=some ⟨true,1,[[.sl (dX.map aM)]]⟩/\σ.next<=B.bq/\B.bq<σ'.next/\∀x:Id,x.bq<σ.next->σ'.get x=σ.get x):=by
 refine eZ fx rfl fun fD=>?_
 clear fD
 (try((repeat(revert N;apply Pn.out));refine wk @Nat.zero_add ?_;(repeat(apply Pn.mk;intro N hN))))
 exact eo (.inl rfl) (vs:=[.fn 209 [.ptr ⟨164000000,σ.next⟩ 0 0]]) (sd @Nat.zero_add) ⟨_,rfl,sd @Nat.zero_add,aH,aH,fun x hx=>by
  have h1:=bZ hx
  simp only[go_sem, ↓reduceIte,Nat.reduceEqDiff,Nat.reduceAdd,Nat.reduceSub,Nat.reduceLeDiff,reduceCtorEq,h1]⟩
def We (σ:ax) (c T O:Id) (s:au) (dX:List Int) (steps:Nat) (r:AV) (σ':ax):Prop:=
 σ.next<=σ'.next/\(∀x:Id,x.bq<σ.next->x≠T->x≠O->σ'.get x=σ.get x)/\
 ((qt s dX steps=none/\r=.fP [.bj,.bool false])∨∃(es:List aa) (v:AV),qt s dX steps=some es/\iS s es/\rJ σ'.get σ'.next c T O s (s.bH.aj++es)/\r=.fP [v,.bool true]/\Iu 96008003 σ.next es v σ'.get σ'.next)
theorem uh {s:au} {dX:List Int} {steps f:Nat} {es:List aa} (h:(kJ s (dn s es es.length)).length=0∨steps<=es.length):rQ s dX steps f es=some es:=by
 cases f with
 |zero=>rfl
 |succ f=>
  rw[rQ]
  by_cases h0:(kJ s (dn s es es.length)).length=0
  ·rw[if_pos h0]
  ·rw[if_neg h0,if_pos ae]
theorem Ta {σ:ax} {c T O:Id} {s:au} (hP:mj s) (h:rJ σ.get σ.next c T O s s.bH.aj) (hE:ib σ.get) (C1:1<=T.bq) (EX:1<=O.bq)
  {dX:List Int} (hs:∀x∈dX,0<=x/\x<=1000) (qZ:dX.length<=200) (steps:Nat) (ed:steps<=501):
  Call Tryz.prog 96 [.ptr c 0 0,.sl (dX.map aM),.int .i64 (steps:Int)] σ (We σ c T O s dX steps):=by
 refine eZ fx rfl fun fD=>?_
 clear fD
 have hT0:=h.o.tv
 have hO0:=h.o.ov
 (try((repeat(revert N;apply Pn.out));refine wk @Nat.zero_add ?_;(repeat(apply Pn.mk;intro N hN))))
 refine .inr (ay _ _ _ _ _ (fun r σ1 hq=>?_) (F8 dX _))
 obtain⟨g1,x1⟩:=σ1
 obtain⟨B,rfl,hB,LB,VN,hf⟩:=hq
 (try dsimp only at hB LB VN hf)
 apply hN
 clear hN N
 (try((repeat(revert N;apply Pn.out));refine wk @Nat.zero_add ?_;(repeat(apply Pn.mk;intro N hN))))
 have base:∀x:Id,x.bq<σ.next->g1 x=σ.get x:=fun x hx=>hf x aH
 have WG:ib g1:=hE.frame (n:=1) (Nat.le_refl _) fun x hx _=>base x ae
 have DS:rJ g1 x1 c T O s s.bH.aj:=h.frame (by(try dsimp only at LB);omega) base
 have Nb:=hP.some
 have fin:∀(es:List aa) (v:AV) (g:Rows) (n:Nat),qt s dX steps=some es->iS s es->rJ g n c T O s (s.bH.aj++es)->Iu 96008003 x1 es v g n->(∀x:Id,x.bq<x1->x≠T->x≠O->g x=g1 x)->x1<=n->We σ c T O s dX steps (.fP [v,.bool true]) ⟨g,n⟩:=fun es v g n h1 h2 h3 h4 h5 h6=>⟨by(try dsimp only at LB ⊢);omega,fun x hx hT hO=>(h5 x ae hT hO).trans (base x hx),.inr ⟨es,v,h1,h2,h3,rfl,by
  rcases h4 with h4|⟨u,k1,k2,k3,k4⟩
  ·exact .inl h4
  ·exact .inr ⟨u,k1,k2,ae,k4⟩⟩⟩
 refine cm (fun m env st=>∃(es:List aa) (f:Nat),m=f/\rQ s dX steps f es=qt s dX steps/\iS s es/\es.length<=steps/\f+es.length=501/\rJ st.get st.next c T O s (s.bH.aj++es)/\Iu 96008003 x1 es (env 9) st.get st.next/\(∀x:Id,x.bq<x1->x≠T->x≠O->st.get x=g1 x)/\x1<=st.next) 501 ⟨[],501,rfl,rfl,iS.nil s,Nat.zero_le _,rfl,by rw[List.append_nil];exact DS.frame aH fun x hx=>sd @Nat.zero_add,.inl ⟨rfl,sd @Nat.zero_add⟩,fun x hx _ _=>sd @Nat.zero_add,aH⟩ ?_
 rintro m env_b st_b ⟨es,f,rfl,hgro,hgood,VU,W9,hC,hu,iO,hn⟩ eS
 have b0:=eS 0 (by kernel_rfl)
 have b1:=eS 1 (by kernel_rfl)
 have b2:=eS 2 (by kernel_rfl)
 have b8:=eS 8 (by kernel_rfl)
 simp only[go_sem, ↓reduceIte,Nat.reduceEqDiff,Nat.reduceAdd,Nat.reduceSub,Nat.reduceLeDiff,reduceCtorEq]at b0 b1 b2 b8
 clear eS
 have hA:=jL hP (es:=es) es.length (Nat.le_refl _) hgood
 have AM:=hA.1.pL
 have lU:=oc s es es.length (Nat.le_refl _)
 obtain⟨f,rfl⟩:∃f,m=f+1:=⟨m-1,ae⟩
 have YF:ib st_b.get:=WG.frame (n:=1) (Nat.le_refl _) fun x hx _=>iO x ae (fun e=>by rw[e]at hx;omega) (fun e=>by rw[e]at hx;omega)
 have hBb:=(iO B VN (fun e=>by rw[e]at LB;omega) (fun e=>by rw[e]at LB;omega)).trans hB
 rcases hu with⟨rfl,e9⟩|⟨u,e9,gu,u1,u2,u3,u4⟩
 ·by_cases hd:((0:Nat):Int)<(steps:Int)
  ·(try((repeat(revert N;apply Pn.out));refine wk (tw @b0 (tw @b1 (tw @b2 (tw @b8 (tw @e9 @hd))))) ?_;(repeat(apply Pn.mk;intro N hN))))
   refine .inr (ay _ _ _ _ _ (fun r σ2 hq=>?_) (ND (σ:=⟨st_b.get,st_b.next+1+1⟩) (c:=c) (T:=T) (O:=O) (B:=B) (es:=[]) hP hgood (hC.frame aH fun x hx=>rfl) YF aH hs qZ hBb aH))
   obtain⟨g2,x2⟩:=σ2
   obtain⟨n2,f2,hq⟩:=hq
   (try dsimp only at n2 f2 hq)
   apply hN
   clear hN N
   have hE2:ib g2:=YF.frame (n:=1) (Nat.le_refl _) fun x hx _=>f2 x ae (fun e=>by rw[e]at hx;omega) (fun e=>by rw[e]at hx;omega)
   obtain⟨⟨b3,k0⟩,b4,k1⟩:=hE2
   have w0:=bZ (i:=rP 0) (n:=x2) (by rw[jP];omega)
   have w1:=bZ (i:=rP 1) (n:=x2) (by rw[jP];omega)
   have p0:(rP 0).site=999000000:=rfl
   have p1:(rP 1).site=999000001:=rfl
   rcases hq with⟨hO,rfl,oL⟩|⟨hO,um,rfl⟩|⟨hO,iT,rfl,oL⟩
   ·(try((repeat(revert N;apply Pn.out));refine wk (tw @b0 (tw @b1 (tw @b2 (tw @b8 (tw @e9 (tw @k0 (tw @k1 (tw @w0 (tw @w1 (tw @p0 @p1)))))))))) ?_;(repeat(apply Pn.mk;intro N hN))))
    refine .inr (ay _ _ _ _ _ (fun r σ3 hq=>?_) (xJ 0 sT))
    obtain⟨rfl,rfl⟩:=hq
    apply hN
    clear hN N
    (try((repeat(revert N;apply Pn.out));refine wk (tw @b0 (tw @b1 (tw @b2 (tw @b8 (tw @e9 (tw @k0 (tw @k1 (tw @w0 (tw @w1 (tw @p0 @p1)))))))))) ?_;(repeat(apply Pn.mk;intro N hN))))
    exact eo (.inl rfl) (vs:=[.bj,.bool true]) (sd @e9) (fin [] _ _ _ (by rw[<-hgro];exact uh (.inl (by rw[hO];rfl))) hgood (oL.frame aH fun x hx=>by
     have z1:=bZ hx
     simp only[go_sem, ↓reduceIte,Nat.reduceEqDiff,Nat.reduceAdd,Nat.reduceSub,Nat.reduceLeDiff,reduceCtorEq,z1]) (.inl ⟨rfl,rfl⟩) (fun x hx hT hO=>by
     have z1:=bZ (i:=x) (n:=x2) ae
     have z2:=f2 x aH hT hO
     have z3:=iO x hx hT hO
     simp only[go_sem, ↓reduceIte,Nat.reduceEqDiff,Nat.reduceAdd,Nat.reduceSub,Nat.reduceLeDiff,reduceCtorEq,z1]
     exact z2.trans z3) aH)
   ·(try((repeat(revert N;apply Pn.out));refine wk (tw @b0 (tw @b1 (tw @b2 (tw @b8 (tw @e9 (tw @k0 (tw @k1 (tw @w0 (tw @w1 (tw @p0 @p1)))))))))) ?_;(repeat(apply Pn.mk;intro N hN))))
    refine .inr (ay _ _ _ _ _ (fun r σ3 hq=>?_) (Ec 1 0 sN sT fun e=>sTN e.symm))
    obtain⟨rfl,rfl⟩:=hq
    apply hN
    clear hN N
    (try((repeat(revert N;apply Pn.out));refine wk (tw @b0 (tw @b1 (tw @b2 (tw @b8 (tw @e9 (tw @k0 (tw @k1 (tw @w0 (tw @w1 (tw @p0 @p1)))))))))) ?_;(repeat(apply Pn.mk;intro N hN))))
    refine .inr (ay _ _ _ _ _ (fun r σ3 hq=>?_) (xJ 1 sN))
    obtain⟨rfl,rfl⟩:=hq
    apply hN
    clear hN N
    (try((repeat(revert N;apply Pn.out));refine wk (tw @b0 (tw @b1 (tw @b2 (tw @b8 (tw @e9 (tw @k0 (tw @k1 (tw @w0 (tw @w1 (tw @p0 @p1)))))))))) ?_;(repeat(apply Pn.mk;intro N hN))))
    exact eo (.inl rfl) (vs:=[.bj,.bool false]) (sd @Nat.zero_add) ⟨by(try dsimp only at LB ⊢);omega,fun x hx hT hO=>by
     have z1:=bZ (i:=x) (n:=x2) ae
     have z2:=f2 x aH hT hO
     have z3:=iO x ae hT hO
     simp only[go_sem, ↓reduceIte,Nat.reduceEqDiff,Nat.reduceAdd,Nat.reduceSub,Nat.reduceLeDiff,reduceCtorEq,z1]
     exact z2.trans (z3.trans (base x hx)),.inl ⟨by rw[<-hgro,rQ,if_neg (fun e=>hO (List.length_eq_zero_iff.1 e)),if_neg (by(try simp only[List.length_nil]at hd ⊢);omega),if_pos um],rfl⟩⟩
   ·obtain⟨x,hx⟩:∃x,aA (kJ s (dn s [] ([]:List aa).length)) (tH dX ([]:List aa).length (kJ s (dn s [] ([]:List aa).length)).length)=x:=⟨_,rfl⟩
    rw[hx]at oL ⊢
    have Fj:x∈kJ s (dn s [] ([]:List aa).length):=by rw[<-hx];exact fH (uP (List.length_pos_iff.2 hO))
    have qW:=hgood.add Fj iT
    have MV:rQ s dX steps f (([]:List aa)++[x])=qt s dX steps:=by rw[<-hgro,rQ,if_neg (fun e=>hO (List.length_eq_zero_iff.1 e)),if_neg (by(try simp only[List.length_nil]at hd ⊢);omega),if_neg ae,hx]
    have MZ:([]:List aa).length<=16777215:=by(try simp only[List.length_nil]);omega
    rw[ab]
    (try((repeat(revert N;apply Pn.out));refine wk (tw @b0 (tw @b1 (tw @b2 (tw @b8 (tw @e9 (tw @k0 (tw @k1 (tw @w0 (tw @w1 (tw @p0 @p1)))))))))) ?_;(repeat(apply Pn.mk;intro N hN))))
    refine .inr (ay _ _ _ _ _ (fun r σ3 hq=>?_) (Cl 0 sT))
    obtain⟨rfl,rfl⟩:=hq
    apply hN
    clear hN N
    (try((repeat(revert N;apply Pn.out));refine wk (tw @b0 (tw @b1 (tw @b2 (tw @b8 (tw @e9 (tw @k0 (tw @k1 (tw @w0 (tw @w1 (tw @p0 @p1)))))))))) ?_;(repeat(apply Pn.mk;intro N hN))))
    refine .inr (ay _ _ _ _ _ (fun r σ3 hq=>?_) (Cl 1 sN))
    obtain⟨rfl,rfl⟩:=hq
    apply hN
    clear hN N
    (try((repeat(revert N;apply Pn.out));refine wk (tw @b0 (tw @b1 (tw @b2 (tw @b8 (tw @e9 (tw @k0 (tw @k1 (tw @w0 (tw @w1 (tw @p0 @p1)))))))))) ?_;(repeat(apply Pn.mk;intro N hN))))
    have E0:(([]:List aa)++[x]).map ab=([]:List aa).map ab++[ab x]:=by simp
    have v7:(([]:List aa)++[x]).length=([]:List aa).length+1:=by simp
    rw[ab]at E0
    have MR:=h.o.cv
    refine⟨f,ae,([]:List aa)++[x],f,rfl,MV,qW,by rw[v7];(try simp only[List.length_nil]at hd ⊢);omega,by rw[v7];(try simp only[List.length_nil]at W9 ⊢);omega,?_,.inr ⟨⟨96008003,x2+1+1+1+1+1⟩,by rw[v7];simp only[go_sem, ↓reduceIte,Nat.reduceEqDiff,Nat.reduceAdd,Nat.reduceSub,Nat.reduceLeDiff,reduceCtorEq]<;>rfl,by rw[E0];simp only[go_sem, ↓reduceIte,Nat.reduceEqDiff,Nat.reduceAdd,Nat.reduceSub,Nat.reduceLeDiff,reduceCtorEq]<;>rfl,aH,aH,by rw[v7];omega,rfl⟩,fun y hy hT hO=>?_,aH⟩
    ·have zc:=bZ oL.o.cv
     have zT:=bZ oL.o.tv
     have zO:=bZ oL.o.ov
     obtain⟨en,a1,a2⟩:=oL.op
     refine⟨oL.o.three aH (sd @zc) (sd @zT) (sd @zO),en,sd (tw @zO @a1),a2.frame aH fun y hy ⟨k,r,hk⟩=>?_⟩
     have zy:=bZ hy
     simp only[go_sem, ↓reduceIte,Nat.reduceEqDiff,Nat.reduceAdd,Nat.reduceSub,Nat.reduceLeDiff,reduceCtorEq,zy]
    ·have zy:=bZ (i:=y) (n:=x2) ae
     simp only[go_sem, ↓reduceIte,Nat.reduceEqDiff,Nat.reduceAdd,Nat.reduceSub,Nat.reduceLeDiff,reduceCtorEq,zy]
     exact(f2 y aH hT hO).trans (iO y hy hT hO)
  ·(try((repeat(revert N;apply Pn.out));refine wk (tw @b0 (tw @b1 (tw @b2 (tw @b8 (tw @e9 @hd))))) ?_;(repeat(apply Pn.mk;intro N hN))))
   exact eo (.inl rfl) (vs:=[.bj,.bool true]) (sd @e9) (fin [] _ _ _ (by rw[<-hgro];exact uh (.inr (by(try simp only[List.length_nil]at hd ⊢);omega))) hgood (hC.frame aH fun x hx=>sd @Nat.zero_add) (.inl ⟨rfl,rfl⟩) (fun x hx hT hO=>by
    have z3:=iO x hx hT hO
    simp only[go_sem, ↓reduceIte,Nat.reduceEqDiff,Nat.reduceAdd,Nat.reduceSub,Nat.reduceLeDiff,reduceCtorEq,z3]) aH)
 ·by_cases hd:(es.length:Int)<(steps:Int)
  ·(try((repeat(revert N;apply Pn.out));refine wk (tw @b0 (tw @b1 (tw @b2 (tw @b8 (tw @e9 (tw @gu @hd)))))) ?_;(repeat(apply Pn.mk;intro N hN))))
   refine .inr (ay _ _ _ _ _ (fun r σ2 hq=>?_) (ND (σ:=⟨st_b.get,st_b.next+1+1⟩) (c:=c) (T:=T) (O:=O) (B:=B) (es:=es) hP hgood (hC.frame aH fun x hx=>rfl) YF aH hs qZ hBb aH))
   obtain⟨g2,x2⟩:=σ2
   obtain⟨n2,f2,hq⟩:=hq
   (try dsimp only at n2 f2 hq)
   apply hN
   clear hN N
   have hE2:ib g2:=YF.frame (n:=1) (Nat.le_refl _) fun x hx _=>f2 x ae (fun e=>by rw[e]at hx;omega) (fun e=>by rw[e]at hx;omega)
   obtain⟨⟨b3,k0⟩,b4,k1⟩:=hE2
   have w0:=bZ (i:=rP 0) (n:=x2) (by rw[jP];omega)
   have w1:=bZ (i:=rP 1) (n:=x2) (by rw[jP];omega)
   have p0:(rP 0).site=999000000:=rfl
   have p1:(rP 1).site=999000001:=rfl
   have ku:=(f2 u aH (fun e=>by rw[e]at u1;omega) (fun e=>by rw[e]at u1;omega)).trans gu
   have wu:=bZ (i:=u) (n:=x2) ae
   rcases hq with⟨hO,rfl,oL⟩|⟨hO,um,rfl⟩|⟨hO,iT,rfl,oL⟩
   ·(try((repeat(revert N;apply Pn.out));refine wk (tw @b0 (tw @b1 (tw @b2 (tw @b8 (tw @e9 (tw @gu (tw @k0 (tw @k1 (tw @w0 (tw @w1 (tw @p0 (tw @p1 (tw @ku @wu))))))))))))) ?_;(repeat(apply Pn.mk;intro N hN))))
    refine .inr (ay _ _ _ _ _ (fun r σ3 hq=>?_) (xJ 0 sT))
    obtain⟨rfl,rfl⟩:=hq
    apply hN
    clear hN N
    (try((repeat(revert N;apply Pn.out));refine wk (tw @b0 (tw @b1 (tw @b2 (tw @b8 (tw @e9 (tw @gu (tw @k0 (tw @k1 (tw @w0 (tw @w1 (tw @p0 (tw @p1 (tw @ku @wu))))))))))))) ?_;(repeat(apply Pn.mk;intro N hN))))
    exact eo (.inl rfl) (vs:=[.own u 0 es.length,.bool true]) (sd @e9) (fin es _ _ _ (by rw[<-hgro];exact uh (.inl (by rw[hO];rfl))) hgood (oL.frame aH fun x hx=>by
     have z1:=bZ hx
     simp only[go_sem, ↓reduceIte,Nat.reduceEqDiff,Nat.reduceAdd,Nat.reduceSub,Nat.reduceLeDiff,reduceCtorEq,z1]) (.inr ⟨u,rfl,sd (tw @wu @ku),u1,aH,u3,u4⟩) (fun x hx hT hO=>by
     have z1:=bZ (i:=x) (n:=x2) ae
     have z2:=f2 x aH hT hO
     have z3:=iO x hx hT hO
     simp only[go_sem, ↓reduceIte,Nat.reduceEqDiff,Nat.reduceAdd,Nat.reduceSub,Nat.reduceLeDiff,reduceCtorEq,z1]
     exact z2.trans z3) aH)
   ·(try((repeat(revert N;apply Pn.out));refine wk (tw @b0 (tw @b1 (tw @b2 (tw @b8 (tw @e9 (tw @gu (tw @k0 (tw @k1 (tw @w0 (tw @w1 (tw @p0 (tw @p1 (tw @ku @wu))))))))))))) ?_;(repeat(apply Pn.mk;intro N hN))))
    refine .inr (ay _ _ _ _ _ (fun r σ3 hq=>?_) (Ec 1 0 sN sT fun e=>sTN e.symm))
    obtain⟨rfl,rfl⟩:=hq
    apply hN
    clear hN N
    (try((repeat(revert N;apply Pn.out));refine wk (tw @b0 (tw @b1 (tw @b2 (tw @b8 (tw @e9 (tw @gu (tw @k0 (tw @k1 (tw @w0 (tw @w1 (tw @p0 (tw @p1 (tw @ku @wu))))))))))))) ?_;(repeat(apply Pn.mk;intro N hN))))
    refine .inr (ay _ _ _ _ _ (fun r σ3 hq=>?_) (xJ 1 sN))
    obtain⟨rfl,rfl⟩:=hq
    apply hN
    clear hN N
    (try((repeat(revert N;apply Pn.out));refine wk (tw @b0 (tw @b1 (tw @b2 (tw @b8 (tw @e9 (tw @gu (tw @k0 (tw @k1 (tw @w0 (tw @w1 (tw @p0 (tw @p1 (tw @ku @wu))))))))))))) ?_;(repeat(apply Pn.mk;intro N hN))))
    exact eo (.inl rfl) (vs:=[.bj,.bool false]) (sd @Nat.zero_add) ⟨by(try dsimp only at LB ⊢);omega,fun x hx hT hO=>by
     have z1:=bZ (i:=x) (n:=x2) ae
     have z2:=f2 x aH hT hO
     have z3:=iO x ae hT hO
     simp only[go_sem, ↓reduceIte,Nat.reduceEqDiff,Nat.reduceAdd,Nat.reduceSub,Nat.reduceLeDiff,reduceCtorEq,z1]
     exact z2.trans (z3.trans (base x hx)),.inl ⟨by rw[<-hgro,rQ,if_neg (fun e=>hO (List.length_eq_zero_iff.1 e)),if_neg (by(try simp only[List.length_nil]at hd ⊢);omega),if_pos um],rfl⟩⟩
   ·obtain⟨x,hx⟩:∃x,aA (kJ s (dn s es es.length)) (tH dX es.length (kJ s (dn s es es.length)).length)=x:=⟨_,rfl⟩
    rw[hx]at oL ⊢
    have Fj:x∈kJ s (dn s es es.length):=by rw[<-hx];exact fH (uP (List.length_pos_iff.2 hO))
    have qW:=hgood.add Fj iT
    have MV:rQ s dX steps f (es++[x])=qt s dX steps:=by rw[<-hgro,rQ,if_neg (fun e=>hO (List.length_eq_zero_iff.1 e)),if_neg (by(try simp only[List.length_nil]at hd ⊢);omega),if_neg ae,hx]
    have MZ:es.length<=16777215:=by(try simp only[List.length_nil]);omega
    rw[ab]
    (try((repeat(revert N;apply Pn.out));refine wk (tw @b0 (tw @b1 (tw @b2 (tw @b8 (tw @e9 (tw @k0 (tw @k1 (tw @w0 (tw @w1 (tw @p0 (tw @p1 (tw @ku (tw @wu @MZ))))))))))))) ?_;(repeat(apply Pn.mk;intro N hN))))
    refine .inr (ay _ _ _ _ _ (fun r σ3 hq=>?_) (Cl 0 sT))
    obtain⟨rfl,rfl⟩:=hq
    apply hN
    clear hN N
    (try((repeat(revert N;apply Pn.out));refine wk (tw @b0 (tw @b1 (tw @b2 (tw @b8 (tw @e9 (tw @k0 (tw @k1 (tw @w0 (tw @w1 (tw @p0 (tw @p1 (tw @ku (tw @wu @MZ))))))))))))) ?_;(repeat(apply Pn.mk;intro N hN))))
    refine .inr (ay _ _ _ _ _ (fun r σ3 hq=>?_) (Cl 1 sN))
    obtain⟨rfl,rfl⟩:=hq
    apply hN
    clear hN N
    (try((repeat(revert N;apply Pn.out));refine wk (tw @b0 (tw @b1 (tw @b2 (tw @b8 (tw @e9 (tw @k0 (tw @k1 (tw @w0 (tw @w1 (tw @p0 (tw @p1 (tw @ku (tw @wu @MZ))))))))))))) ?_;(repeat(apply Pn.mk;intro N hN))))
    have E0:(es++[x]).map ab=es.map ab++[ab x]:=by simp
    have v7:(es++[x]).length=es.length+1:=by simp
    rw[ab]at E0
    have MR:=h.o.cv
    have ncu:(c=u)=False:=eq_false fun e=>by rw[<-e]at u1;omega
    have nTu:(T=u)=False:=eq_false fun e=>by rw[<-e]at u1;omega
    have nOu:(O=u)=False:=eq_false fun e=>by rw[<-e]at u1;omega
    refine⟨f,ae,es++[x],f,rfl,MV,qW,by rw[v7];(try simp only[List.length_nil]at hd ⊢);omega,by rw[v7];(try simp only[List.length_nil]at W9 ⊢);omega,?_,.inr ⟨⟨96008003,x2+1+1+1+1+1⟩,by rw[v7];simp only[go_sem, ↓reduceIte,Nat.reduceEqDiff,Nat.reduceAdd,Nat.reduceSub,Nat.reduceLeDiff,reduceCtorEq]<;>rfl,by rw[E0];simp only[go_sem, ↓reduceIte,Nat.reduceEqDiff,Nat.reduceAdd,Nat.reduceSub,Nat.reduceLeDiff,reduceCtorEq]<;>rfl,aH,aH,by rw[v7];omega,rfl⟩,fun y hy hT hO=>?_,aH⟩
    ·have zc:=bZ oL.o.cv
     have zT:=bZ oL.o.tv
     have zO:=bZ oL.o.ov
     obtain⟨en,a1,a2⟩:=oL.op
     refine⟨oL.o.three aH (sd (tw @zc @ncu)) (sd (tw @zT @nTu)) (sd (tw @zO @nOu)),en,sd (tw @zO (tw @a1 @nOu)),a2.frame aH fun y hy ⟨k,r,hk⟩=>?_⟩
     have zy:=bZ hy
     have nyu:(y=u)=False:=eq_false fun e=>by
      rw[e,ku]at hk
      simp at hk
     simp only[go_sem, ↓reduceIte,Nat.reduceEqDiff,Nat.reduceAdd,Nat.reduceSub,Nat.reduceLeDiff,reduceCtorEq,zy,nyu]
    ·have zy:=bZ (i:=y) (n:=x2) ae
     have nyu:(y=u)=False:=eq_false fun e=>by rw[<-e]at u1;omega
     simp only[go_sem, ↓reduceIte,Nat.reduceEqDiff,Nat.reduceAdd,Nat.reduceSub,Nat.reduceLeDiff,reduceCtorEq,zy,nyu]
     exact(f2 y aH hT hO).trans (iO y hy hT hO)
  ·(try((repeat(revert N;apply Pn.out));refine wk (tw @b0 (tw @b1 (tw @b2 (tw @b8 (tw @e9 (tw @gu @hd)))))) ?_;(repeat(apply Pn.mk;intro N hN))))
   exact eo (.inl rfl) (vs:=[.own u 0 es.length,.bool true]) (sd @e9) (fin es _ _ _ (by rw[<-hgro];exact uh (.inr (by(try simp only[List.length_nil]at hd ⊢);omega))) hgood (hC.frame aH fun x hx=>sd @Nat.zero_add) (.inr ⟨u,rfl,sd @gu,u1,aH,u3,u4⟩) (fun x hx hT hO=>by
    have z3:=iO x hx hT hO
    simp only[go_sem, ↓reduceIte,Nat.reduceEqDiff,Nat.reduceAdd,Nat.reduceSub,Nat.reduceLeDiff,reduceCtorEq,z3]) aH)
theorem kb.cut {P:Program} (hm:P.follows .mixedOrders=true) {f:Nat} {args args':List AV} {R:AV->Prop} (hc:tM args args') (h:kb P f args' R):kb P f args R:=fun n=>(h n).cut hm hc
theorem AX (dX:List Int) (hs:∀x∈dX,0<=x/\x<=1000) (hl:dX.length<=200):aw Tryz.prog 80 [.sl (dX.map aM)] (.bool true):=by
 refine aw.body fx rfl fun fD n0=>?_
 clear fD
 have fc:(dX.map aM).length=dX.length:=by simp
 have hd:decide ((200:Int)<(dX.length:Int))=false:=decide_eq_false ae
 (try((repeat(revert N;apply Pn.out));refine wk (tw @fc @hd) ?_;(repeat(apply Pn.mk;intro N hN))))
 refine cm (fun n env st=>∃k:Nat,n=(dX.length)-k/\k<=(dX.length)/\env 3=.int .i64 (k:Int)) (dX.length) ⟨0,ae,ae,sl @Nat.zero_add⟩ ?_
 rintro n_a env_a st_a ⟨k,rfl,ale,a3⟩ eF
 have a0:=eF 0 (by kernel_rfl)
 simp only[go_sem, ↓reduceIte,Nat.reduceEqDiff,Nat.reduceAdd,Nat.reduceSub,Nat.reduceLeDiff,reduceCtorEq]at a0
 clear eF
 by_cases hk:(k:Int)<(dX.length:Int)
 ·have eh:∀{e:Env},(e 3=.int .i64 (IntKind.i64.wrap ((k:Int)+1)))->∃m0,m0<(dX.length)-k/\∃k:Nat,m0=(dX.length)-k/\k<=(dX.length)/\e 3=.int .i64 (k:Int):=fun x1=>⟨_,ae,k+1,rfl,ae,(by rw[x1,bf ae])⟩
  have jg:k<dX.length:=ae
  have hg:=Dw jg
  have hr:=hs (dX.getD k 0) (by rw[List.getD_eq_getElem?_getD,List.getElem?_eq_getElem jg];exact List.getElem_mem jg)
  have h3:=lz (dX.getD k 0) 0 1000
  generalize dX.getD k 0=z at *
  rw[show ik z 0 1000=true by simp[ik,hr.1,hr.2]]at h3
  (have zF:=tw @a3 (tw @a0 (tw @hk (tw @hg @fc)));(repeat(first|((repeat(revert N;apply Pn.out));refine wk zF ?_;(repeat(apply Pn.mk;intro N hN)))|((try apply Or.inl);refine⟨_,aw.x (h3) (sd zF),?_⟩;apply hN;clear hN N)));try clear zF)
  exact eh (sd (tw @a3 @a0))
 ·(try((repeat(revert N;apply Pn.out));refine wk (tw @a3 (tw @a0 (tw @hk @fc))) ?_;(repeat(apply Pn.mk;intro N hN))))
  exact da (b:=true) (.inl rfl) (sd @Nat.zero_add) rfl
noncomputable def Hk (s:au) (dX:List Int) (steps:Nat):AV:=if j8 s then(match qt s dX steps with
 |some es=>.fP [.sl (es.map ab),.agg [.sl ((dn s es es.length).map ab)],.int .i64 0]
 |none=>.fP [.bj,.agg [.bj],.int .i64 4])else .fP [.bj,.agg [.bj],.int .i64 1]
theorem IW {s:au} {dX:List Int} {steps:Nat} (h:j8 s=false):Hk s dX steps=.fP [.bj,.agg [.bj],.int .i64 1]:=by
 unfold Hk;rw[h];rfl
theorem Bw {s:au} {dX:List Int} {steps:Nat} (h:j8 s=true) (h2:qt s dX steps=none):Hk s dX steps=.fP [.bj,.agg [.bj],.int .i64 4]/\∀b,ET s dX steps b=.fP [.bj,.agg [.bj],.bool b,.int .i64 4]:=by
 unfold Hk ET;rw[h,h2];exact⟨rfl,fun b=>rfl⟩
theorem By {s:au} {dX:List Int} {steps:Nat} (h:j8 s=true) {es:List aa} (h2:qt s dX steps=some es):Hk s dX steps=.fP [.sl (es.map ab),.agg [.sl ((dn s es es.length).map ab)],.int .i64 0]/\∀b,ET s dX steps b=.fP [.sl (es.map ab),.agg [.sl ((dn s es es.length).map ab)],.bool b,.int .i64 0]:=by
 unfold Hk ET;rw[h,h2];exact⟨rfl,fun b=>rfl⟩
noncomputable def w5 (s:au) (l:List aa):List aa×Int:=if jY s l=0 then((k8 s l).2,0)else([],jY s l)
def GL (P:Program) (f:Nat) (args:List AV) (L:List aa) (c:Int):Prop:=
 ∀n:Nat,Call P f args ⟨fun _=>none,n⟩ (fun r σ'=>∃v ids,r=.fP [.agg [v],.int .i64 c]/\Wh ab 3 σ'.get v L ids/\LZ n σ'.next ids)
theorem Ck (s:au) (l:List aa) (hn:im s.aD) (hm:sf s) (hl:l.length<=1048576):GL Tryz.prog 38 [.agg (ck s),.agg [.sl (l.map ab)]] (w5 s l).1 (w5 s l).2:=by
 intro n0
 have h1:=uv s l hn hm hl
 by_cases h0:jY s l=0
 ·obtain⟨hP,hA,hW⟩:=BY.1 h0
  have hc:=fun σ=>Fs s hP.w l hA hW σ
  have gV:=qw hP.w hA hW
  have kH:0<(k8 s l).2.length:=by have:=gV.len;have:=hP.some;omega
  have hr:w5 s l=((k8 s l).2,0):=by rw[w5,if_pos h0]
  rw[h0]at h1
  rw[hr]
  refine eZ fx rfl fun fD=>?_
  clear fD
  rw[ck]at h1 hc ⊢
  (repeat(first|((repeat(revert N;apply Pn.out));refine wk @Nat.zero_add ?_;(repeat(apply Pn.mk;intro N hN)))|((try apply Or.inl);refine⟨_,aw.x (h1) (sd @Nat.zero_add),?_⟩;apply hN;clear hN N)))
  refine .inr (ay _ _ _ _ _ (fun r σ1 hq=>?_) (hc _))
  obtain⟨g1,x1⟩:=σ1
  obtain⟨v,o,rfl,hv,ho,Xr,VX,iO⟩:=hq
  (try dsimp only at hv ho Xr VX iO)
  have k4:=iO ⟨38000002,n0⟩ aH
  simp only[go_sem, ↓reduceIte,Nat.reduceEqDiff,Nat.reduceAdd,Nat.reduceSub,Nat.reduceLeDiff,reduceCtorEq]at k4
  have vo:=bZ VX
  have v4:=bZ (i:=⟨38000002,n0⟩) (n:=x1) aH
  have o4:=ei (a:=⟨38000002,n0⟩) (b:=o) aH
  apply hN
  clear hN N
  (try((repeat(revert N;apply Pn.out));refine wk (tw @k4 @v4) ?_;(repeat(apply Pn.mk;intro N hN))))
  exact eo (.inl rfl) (vs:=[.agg [.own o 0 (k8 s l).2.length],.int .i64 0]) (sd @v4) ⟨_,[o],rfl,.inr ⟨o,rfl,sd (tw @vo (tw @o4 @ho)),rfl,kH⟩,⟨List.nodup_cons.2 ⟨by simp,List.nodup_nil⟩,fun i hi=>by rw[List.mem_singleton.1 hi];(try dsimp only);omega⟩⟩
 ·have hd:decide (jY s l=0)=false:=decide_eq_false h0
  have hr:w5 s l=([],jY s l):=by rw[w5,if_neg h0]
  rw[hr]
  refine eZ fx rfl fun fD=>?_
  clear fD
  rw[ck]at h1 ⊢
  (repeat(first|((repeat(revert N;apply Pn.out));refine wk @hd ?_;(repeat(apply Pn.mk;intro N hN)))|((try apply Or.inl);refine⟨_,aw.x (h1) (sd @hd),?_⟩;apply hN;clear hN N)))
  exact eo (.inl rfl) (vs:=[.agg [.bj],.int .i64 (jY s l)]) (sd @Nat.zero_add) ⟨.bj,[],rfl,.inl ⟨rfl,rfl,rfl⟩,⟨List.nodup_nil,fun i hi=>by cases hi⟩⟩
section
variable {P:Program} {L:List aa}
theorem GL.s {f:Nat} {args:List AV} {c:Int} (h:GL P f args L c):aw P f args (.fP [.agg [AY ab L],.int .i64 c]):=fun n=>
 ay _ _ _ _ _ (fun r σ' hq=>by
  obtain⟨v,ids,rfl,ho,hi⟩:=hq
  rcases ho with⟨rfl,rfl,_⟩|⟨o,rfl,h2,_,hp⟩
  ·exact⟨_,by simp only[fo,bx,cw,l5,jH,ej,Option.map_some];rfl,rfl⟩
  ·have:=eT (e:=ab) (n:=3) h2 rfl fun x=>Rx _ 2 x
   exact⟨_,by simp only[fo,bx,cw,l5,this,ej,Option.map_some];rfl,by rw[AY,if_neg ae]⟩) (h n)
end
def QR (dX:List Int):Bool:=decide (dX.length<=200)&& !(dX.any fun n=> !ik n 0 1000)
theorem Oa {dX:List Int}:QR dX=true↔dX.length<=200/\∀x∈dX,0<=x/\x<=1000:=by
 unfold QR
 simp only[Bool.and_eq_true,decide_eq_true_eq,Bool.not_eq_true',List.any_eq_false,Bool.not_eq_false',ik,Bool.not_eq_true]
 constructor
 ·rintro⟨h1,h2⟩
  exact⟨h1,fun x hx=>by have:=h2 x hx;simpa using this⟩
 ·rintro⟨h1,h2⟩
  exact⟨h1,fun x hx=>by simpa using h2 x hx⟩
theorem Ob (n:Int):aw Tryz.prog 124 [.int .i64 n] (.bool (!ik n 0 1000)):=by
 refine aw.body fx rfl fun hl n0=>?_
 clear hl
 have h:=kC n 0 1000
 (repeat(first|((repeat(revert N;apply Pn.out));refine wk @Nat.zero_add ?_;(repeat(apply Pn.mk;intro N hN)))|((try apply Or.inl);refine⟨_,aw.x (h) (sd @Nat.zero_add),?_⟩;apply hN;clear hN N)))
 exact da (b:= !ik n 0 1000) (.inl rfl) (sd @Nat.zero_add) rfl
theorem Lc (ws:List Int) (hl:ws.length<=1048576):aw Tryz.prog 123 [.sl (ws.map aM),.fn 124 []] (.bool (ws.any fun n=> !ik n 0 1000)):=
 kh II (show CC Tryz.prog 123=some (yX 123 188) by kernel_rfl)
  (show CC Tryz.prog 188=some (th 188 1 false) by kernel_rfl) ws hl _ _ _ rfl (fun g=>by rw[ar]) (fun x _=>Ob x) fun g=>by rw[ar]
theorem xq (dX:List Int) (hl:dX.length<=1048576):aw Tryz.prog 66 [.sl (dX.map aM)] (.bool (QR dX)):=by
 refine aw.body fx rfl fun fD n0=>?_
 clear fD
 have fc:(dX.map aM).length=dX.length:=by simp
 have h:=Lc dX hl
 unfold QR
 by_cases h2:dX.length<=200
 ·have h3:decide ((dX.length:Int)<=200)=true:=decide_eq_true ae
  (repeat(first|((repeat(revert N;apply Pn.out));refine wk (tw @fc @h3) ?_;(repeat(apply Pn.mk;intro N hN)))|((try apply Or.inl);refine⟨_,aw.x (h) (sd (tw @fc @h3)),?_⟩;apply hN;clear hN N)))
  exact da (b:= !(dX.any fun n=> !ik n 0 1000)) (.inl rfl) (sd @Nat.zero_add) (by rw[decide_eq_true h2];rfl)
 ·have h3:decide ((dX.length:Int)<=200)=false:=decide_eq_false ae
  (repeat(first|((repeat(revert N;apply Pn.out));refine wk (tw @fc @h3) ?_;(repeat(apply Pn.mk;intro N hN)))|((try apply Or.inl);refine⟨_,aw.x (h) (sd (tw @fc @h3)),?_⟩;apply hN;clear hN N)))
  exact da (b:=false) (.inl rfl) (sd @Nat.zero_add) (by rw[decide_eq_false h2];rfl)
def LV (σ:ax) (s:au) (dX:List Int) (steps:Nat) (r:AV) (σ':ax):Prop:=
 σ.next<=σ'.next/\(∀x:Id,x.bq<σ.next->σ'.get x=σ.get x)/\
 ((qt s dX steps=none/\r=.fP [.bj,.agg [.bj],.int .i64 4])∨∃(es:List aa) (v:AV) (o:Id),qt s dX steps=some es/\iS s es/\r=.fP [v,.agg [.own o 0 (dn s es es.length).length],.int .i64 0]/\Iu 96008003 σ.next es v σ'.get σ'.next/\σ'.get o=some ⟨true,3,(dn s es es.length).map ab⟩/\σ.next<=o.bq/\o.bq<σ'.next/\∀u m,v=.own u 0 m->u≠o)
theorem PQ {σ:ax} {s:au} (hP:mj s) (hE:ib σ.get) (sC:1<=σ.next) {dX:List Int} (hs:∀x∈dX,0<=x/\x<=1000) (qZ:dX.length<=200) (steps:Nat) (ed:steps<=501):
  Call Tryz.prog 67 [.agg (ck s),.sl (dX.map aM),.int .i64 (steps:Int)] σ (LV σ s dX steps):=by
 refine eZ fx rfl fun fD=>?_
 clear fD
 have hT:1<=s.aE:=(dY hP.Gj).1
 have hc:=fun σ=>Dn s hP.set hT s.bH.aj hP.o8 σ
 rw[ck]at hc ⊢
 (try((repeat(revert N;apply Pn.out));refine wk @Nat.zero_add ?_;(repeat(apply Pn.mk;intro N hN))))
 refine .inr (ay _ _ _ _ _ (fun r σ1 hq=>?_) (hc _))
 obtain⟨g1,x1⟩:=σ1
 obtain⟨c,T,O,rfl,hC,MR,C1,EX,qv,iO⟩:=hq
 (try dsimp only at hC MR C1 EX qv iO)
 have base:∀x:Id,x.bq<σ.next->g1 x=σ.get x:=fun x hx=>by
  have h1:=bZ hx
  have h2:=iO x aH
  simp only[go_sem, ↓reduceIte,Nat.reduceEqDiff,Nat.reduceAdd,Nat.reduceSub,Nat.reduceLeDiff,reduceCtorEq,h1]at h2
  exact h2
 have k7:=iO ⟨67000002,σ.next⟩ aH
 simp only[go_sem, ↓reduceIte,Nat.reduceEqDiff,Nat.reduceAdd,Nat.reduceSub,Nat.reduceLeDiff,reduceCtorEq]at k7
 apply hN
 clear hN N
 have WG:ib g1:=hE.frame (n:=1) (Nat.le_refl _) fun x hx _=>base x ae
 (try((repeat(revert N;apply Pn.out));refine wk @k7 ?_;(repeat(apply Pn.mk;intro N hN))))
 refine .inr (ay _ _ _ _ _ (fun r σ2 hq=>?_) (Ta (σ:=⟨g1,_⟩) (c:=c) (T:=T) (O:=O) hP (hC.frame aH fun x hx=>rfl) WG ae ae hs qZ steps ed))
 obtain⟨g2,x2⟩:=σ2
 obtain⟨n2,f2,hq⟩:=hq
 (try dsimp only at n2 f2 hq)
 have kT:T.bq<x1:=hC.o.tv
 have kO:O.bq<x1:=hC.o.ov
 have k72:=(f2 ⟨67000002,σ.next⟩ aH (fun e=>by rw[<-e]at C1;(try dsimp only at C1);omega) (fun e=>by rw[<-e]at EX;(try dsimp only at EX);omega)).trans k7
 have Rs:∀x:Id,x.bq<σ.next->g2 x=σ.get x:=fun x hx=>(f2 x ae (fun e=>by rw[e]at hx;omega) (fun e=>by rw[e]at hx;omega)).trans (base x hx)
 apply hN
 clear hN N
 rcases hq with⟨hg,rfl⟩|⟨es,v,hg,hG,oL,rfl,hL⟩
 ·(try((repeat(revert N;apply Pn.out));refine wk @k72 ?_;(repeat(apply Pn.mk;intro N hN))))
  exact eo (.inl rfl) (vs:=[.bj,.agg [.bj],.int .i64 4]) (sd @Nat.zero_add) ⟨aH,fun x hx=>by
   have h1:=bZ hx
   simp only[go_sem, ↓reduceIte,Nat.reduceEqDiff,Nat.reduceAdd,Nat.reduceSub,Nat.reduceLeDiff,reduceCtorEq,h1,Rs x hx],.inl ⟨hg,rfl⟩⟩
 ·have hA:=jL hP (es:=es) es.length (Nat.le_refl _) hG
  have Gt:=rl hP (es:=es) es.length (Nat.le_refl _) hG
  rw[List.take_length]at Gt
  have lU:=oc s es es.length (Nat.le_refl _)
  have AM:=hA.1.pL
  have Nb:=hP.some
  (try((repeat(revert N;apply Pn.out));refine wk @k72 ?_;(repeat(apply Pn.mk;intro N hN))))
  refine .inr (ay _ _ _ _ _ (fun r σ3 hq=>?_) (sM (σ:=⟨g2,_⟩) (L:=dn s es es.length) (oL.o.frame aH fun x _=>rfl) (by rw[List.length_append];omega) (fun e=>by have:=congrArg List.length e;rw[List.length_append,List.length_nil]at this;omega) hA.1.xY Gt.perm))
  obtain⟨g3,x3⟩:=σ3
  obtain⟨o,rfl,q1,q2,q3,q4,q5⟩:=hq
  (try dsimp only at q1 q2 q3 q4 q5)
  have k73:=(q5 ⟨67000002,σ.next⟩ aH (fun e=>by rw[<-e]at C1;(try dsimp only at C1);omega)).trans k72
  have vo:=ei (a:=(⟨67000002,σ.next⟩:Id)) (b:=o) aH
  apply hN
  clear hN N
  have vc:v.cells=[v]/\v.cell=true:=by
   rcases hL with⟨_,rfl⟩|⟨u,rfl,_⟩<;>exact⟨rfl,rfl⟩
  obtain⟨c1,c2⟩:=vc
  (try((repeat(revert N;apply Pn.out));refine wk (tw @k73 (tw @vo (tw @c1 @c2))) ?_;(repeat(apply Pn.mk;intro N hN))))
  refine eo (.inl rfl) (vs:=[v,.agg [.own o 0 (dn s es es.length).length],.int .i64 0]) (sd @Nat.zero_add) ⟨aH,fun x hx=>?_,.inr ⟨es,v,o,hg,hG,rfl,?_,sd (tw @vo @q1),ae,aH,?_⟩⟩
  ·have h1:=bZ hx
   have h2:=q5 x ae (fun e=>by rw[e]at hx;omega)
   simp only[go_sem, ↓reduceIte,Nat.reduceEqDiff,Nat.reduceAdd,Nat.reduceSub,Nat.reduceLeDiff,reduceCtorEq,h1]
   exact h2.trans (Rs x hx)
  ·rcases hL with h1|⟨u,h1,h2,h3,h4,h40,h5⟩
   ·exact .inl h1
   ·have vu:(u=(⟨67000002,σ.next⟩:Id))=False:=eq_false fun e=>by rw[e]at h3;(try dsimp only at h3);omega
    have h6:=(q5 u aH (fun e=>by rw[e]at h3;omega)).trans h2
    exact .inr ⟨u,h1,sd (tw @vu @h6),ae,aH,h40,h5⟩
  ·intro u m e1 e2
   rcases hL with⟨_,h1⟩|⟨u',h1,h2,h3,h4,h40,h5⟩
   ·rw[h1]at e1;cases e1
   ·rw[h1]at e1
    injection e1 with e1
    rw[<-e1]at e2
    rw[e2]at h4
    (try dsimp only at q2)
    omega
def LU (σ:ax) (s:au) (dX:List Int) (steps:Nat) (r:AV) (σ':ax):Prop:=
 (j8 s=false/\r=.fP [.bj,.agg [.bj],.int .i64 1]/\σ.next<=σ'.next/\∀x:Id,x.bq<σ.next->σ'.get x=σ.get x)∨(j8 s=true/\LV σ s dX steps r σ')
theorem Eb {σ:ax} (s:au) (hn:im s.aD) (hm:sf s) (hE:ib σ.get) (sC:1<=σ.next) {dX:List Int} (hs:∀x∈dX,0<=x/\x<=1000) (qZ:dX.length<=200) (steps:Nat) (ed:steps<=500):
  Call Tryz.prog 33 [.agg (ck s),.sl (dX.map aM),.int .i64 (steps:Int)] σ (LU σ s dX steps):=by
 refine eZ fx rfl fun fD=>?_
 clear fD
 have h1:=ns CA s hn hm.s.g hm.s.t (fun t ht=>hm.s.s t ht) hm.a
 have h2:=xq dX ae
 rw[Oa.2 ⟨qZ,hs⟩]at h2
 have h3:=kC (steps:Int) 0 500
 rw[show ik (steps:Int) 0 500=true by simp[ik];omega]at h3
 have hc:=fun(hP:mj s) (σ:ax) (hE:ib σ.get) (h1:1<=σ.next)=>PQ hP hE h1 hs qZ steps ae
 cases h0:j8 s
 ·rw[h0]at h1
  rw[ck]at h1 ⊢
  (repeat(first|((repeat(revert N;apply Pn.out));refine wk @Nat.zero_add ?_;(repeat(apply Pn.mk;intro N hN)))|((try apply Or.inl);refine⟨_,aw.x (h1) (sd @Nat.zero_add),?_⟩;apply hN;clear hN N)))
  exact eo (.inl rfl) (vs:=[.bj,.agg [.bj],.int .i64 1]) (sd @Nat.zero_add) (.inl ⟨h0,rfl,aH,fun x hx=>by
   have h1:=bZ hx
   simp only[go_sem, ↓reduceIte,Nat.reduceEqDiff,Nat.reduceAdd,Nat.reduceSub,Nat.reduceLeDiff,reduceCtorEq,h1]⟩)
 ·rw[h0]at h1
  have hP:=mN.1 h0
  rw[ck]at h1 hc ⊢
  (repeat(first|((repeat(revert N;apply Pn.out));refine wk @Nat.zero_add ?_;(repeat(apply Pn.mk;intro N hN)))|((try apply Or.inl);refine⟨_,aw.x (h1) (sd @Nat.zero_add),?_⟩;apply hN;clear hN N)|((try apply Or.inl);refine⟨_,aw.x (h2) (sd @Nat.zero_add),?_⟩;apply hN;clear hN N)|((try apply Or.inl);refine⟨_,aw.x (h3) (sd @Nat.zero_add),?_⟩;apply hN;clear hN N)))
  refine .inr (ay _ _ _ _ _ (fun r σ1 hq=>?_) (hc hP _ (hE.frame (n:=1) (Nat.le_refl _) fun x hx _=>by
   have h1:=bZ (i:=x) (n:=σ.next) ae
   simp only[go_sem, ↓reduceIte,Nat.reduceEqDiff,Nat.reduceAdd,Nat.reduceSub,Nat.reduceLeDiff,reduceCtorEq,h1]) aH))
  obtain⟨g1,x1⟩:=σ1
  obtain⟨n1,f1,hq⟩:=hq
  (try dsimp only at n1 f1 hq)
  have k7:=f1 ⟨33000002,σ.next⟩ aH
  simp only[go_sem, ↓reduceIte,Nat.reduceEqDiff,Nat.reduceAdd,Nat.reduceSub,Nat.reduceLeDiff,reduceCtorEq]at k7
  have base:∀x:Id,x.bq<σ.next->g1 x=σ.get x:=fun x hx=>by
   have h1:=bZ hx
   have h2:=f1 x aH
   simp only[go_sem, ↓reduceIte,Nat.reduceEqDiff,Nat.reduceAdd,Nat.reduceSub,Nat.reduceLeDiff,reduceCtorEq,h1]at h2
   exact h2
  apply hN
  clear hN N
  rcases hq with⟨hg,rfl⟩|⟨es,v,o,hg,hG,rfl,hL,go,q2,q3,iI⟩
  ·(try((repeat(revert N;apply Pn.out));refine wk @k7 ?_;(repeat(apply Pn.mk;intro N hN))))
   exact eo (.inl rfl) (vs:=[.bj,.agg [.bj],.int .i64 4]) (sd @Nat.zero_add) (.inr ⟨h0,aH,fun x hx=>by
    have h1:=bZ hx
    simp only[go_sem, ↓reduceIte,Nat.reduceEqDiff,Nat.reduceAdd,Nat.reduceSub,Nat.reduceLeDiff,reduceCtorEq,h1,base x hx],.inl ⟨hg,rfl⟩⟩)
  ·have vc:v.cells=[v]/\v.cell=true:=by
    rcases hL with⟨_,rfl⟩|⟨u,rfl,_⟩<;>exact⟨rfl,rfl⟩
   obtain⟨c1,c2⟩:=vc
   have vo:(o=(⟨33000002,σ.next⟩:Id))=False:=eq_false fun e=>by rw[e]at q2;(try dsimp only at q2);omega
   (try((repeat(revert N;apply Pn.out));refine wk (tw @k7 (tw @vo (tw @c1 @c2))) ?_;(repeat(apply Pn.mk;intro N hN))))
   refine eo (.inl rfl) (vs:=[v,.agg [.own o 0 (dn s es es.length).length],.int .i64 0]) (sd @Nat.zero_add) (.inr ⟨h0,aH,fun x hx=>by
    have h1:=bZ hx
    simp only[go_sem, ↓reduceIte,Nat.reduceEqDiff,Nat.reduceAdd,Nat.reduceSub,Nat.reduceLeDiff,reduceCtorEq,h1,base x hx],.inr ⟨es,v,o,hg,hG,rfl,?_,sd (tw @vo @go),by(try dsimp only at q2);omega,aH,iI⟩⟩)
   rcases hL with h1|⟨u,h1,h2,h3,h4,h40,h5⟩
   ·exact .inl h1
   ·have vu:(u=(⟨33000002,σ.next⟩:Id))=False:=eq_false fun e=>by rw[e]at h3;(try dsimp only at h3);omega
    exact .inr ⟨u,h1,sd (tw @vu @h2),by(try dsimp only at h3);omega,aH,h40,h5⟩
def jf (b:Int):List AV:=[.int .u8 b]
def eL (g:Rows) (X:Id) (bs:List Int) (A:Nat):Prop:=∃(a:Nat) (z:Int),a<=A/\g X=some ⟨true,3,[[.sl (bs.map jf),.int .i64 (a:Int),.int .u64 z]]⟩
theorem eL.mono {g:Rows} {X:Id} {bs:List Int} {A B:Nat} (h:eL g X bs A) (k:A<=B):eL g X bs B:=by
 obtain⟨a,z,h1,h2⟩:=h
 exact⟨a,z,ae,h2⟩
def jD (X:Id) (σ σ':ax):Prop:=σ.next<=σ'.next/\∀i,i≠X->i.bq<σ.next->σ'.get i=σ.get i
theorem wrap_u64 (n:Int):IntKind.u64.wrap n=n % 18446744073709551616:=by
 rw[IntKind.wrap];simp[IntKind.bits,IntKind.signed]
theorem Pp (z:Int):0<=IntKind.u64.wrap ((BitVec.ofInt 64 z&&& BitVec.ofInt 64 255).toNat:Int)/\IntKind.u64.wrap ((BitVec.ofInt 64 z&&& BitVec.ofInt 64 255).toNat:Int)<=255:=by
 have h:(BitVec.ofInt 64 z&&& BitVec.ofInt 64 255).toNat<=255:=by
  rw[BitVec.toNat_and]
  exact Nat.and_le_right
 rw[wrap_u64];omega
theorem ym (z:Int):0<=IntKind.i64.wrap (IntKind.u64.wrap ((BitVec.ofInt 64 z&&& BitVec.ofInt 64 255).toNat:Int))/\IntKind.i64.wrap (IntKind.u64.wrap ((BitVec.ofInt 64 z&&& BitVec.ofInt 64 255).toNat:Int))<=255:=by
 obtain⟨h0,h1⟩:=Pp z
 rw[db ae]
 exact⟨h0,h1⟩
theorem wL {v n:Int} (hv:0<=v) (hn:0<n):0<=v.tmod n/\(v.tmod n=0∨v.tmod n<n):=by
 rw[Int.tmod_eq_emod_of_nonneg hv]
 exact⟨Int.emod_nonneg _ ae,.inr (Int.emod_lt_of_pos _ hn)⟩
theorem NF (bs:List Int) (hb:∀b∈bs,0<=b/\b<=255) (iz:bs.length<=4096) (X:Id) (A:Nat) (ha:A<=1073741824) (σ:ax) (h:eL σ.get X bs A):
  Call Tryz.prog 117 [.ptr X 0 0] σ fun r σ'=>∃v:Int,r=.int .i64 v/\0<=v/\v<=255/\eL σ'.get X bs (A+1)/\jD X σ σ':=by
 obtain⟨a,z,haA,hg⟩:=h
 refine eZ fx rfl fun fD=>?_
 clear fD
 have fc:(bs.map jf).length=bs.length:=by simp
 have w1:IntKind.i64.wrap ((a:Int)+1)=((a+1:Nat):Int):=(db ae).trans ae
 by_cases ha:(a:Int)<(bs.length:Int)
 ·have Kk:(bs.map jf)[a]? =some [.int .u8 (bs.getD a 0)]:=getD_map jf ae
  have Gu:=hb (bs.getD a 0) (by rw[List.getD_eq_getElem?_getD,List.getElem?_eq_getElem (by omega:a<bs.length)];exact List.getElem_mem ae)
  generalize bs.getD a 0=b at Kk Gu
  have w2:IntKind.i64.wrap b=b:=db ae
  have hle:((a+1:Nat):Int)<=(bs.length:Int):=ae
  (try((repeat(revert N;apply Pn.out));refine wk (tw @hg (tw @fc (tw @ha (tw @Kk (tw @w1 (tw @w2 @hle)))))) ?_;(repeat(apply Pn.mk;intro N hN))))
  exact eo (.inl rfl) (vs:=[.int .i64 b]) (sd @Nat.zero_add) ⟨b,rfl,Gu.1,Gu.2,⟨a+1,_,ae,sl @Nat.zero_add⟩,aH,fun i hi _=>sd @hi⟩
 ·have hle:decide (((a+1:Nat):Int)<=(bs.length:Int))=false:=decide_eq_false ae
  (try((repeat(revert N;apply Pn.out));refine wk (tw @hg (tw @fc (tw @ha (tw @w1 @hle)))) ?_;(repeat(apply Pn.mk;intro N hN))))
  exact eo (.inl rfl) (vs:=[.int .i64 _]) (by simp only[gU,jj,go_sem, ↓reduceIte,Nat.reduceEqDiff,Nat.reduceAdd,Nat.reduceSub,Nat.reduceLeDiff,reduceCtorEq]<;>rfl) ⟨_,rfl,(ym _).1,(ym _).2,⟨a+1,_,ae,sl @Nat.zero_add⟩,aH,fun i hi _=>sd @hi⟩
theorem jD.to {X:Id} {g g':Rows} {n n1 n' m':Nat} (h:jD X ⟨g,n1⟩ ⟨g',n'⟩) (h1:n<=n1) (h2:n'<=m'):jD X ⟨g,n⟩ ⟨g',m'⟩:=
 ⟨Nat.le_trans h1 (Nat.le_trans h.1 h2),fun i hi hv=>h.2 i hi (Nat.lt_of_lt_of_le hv h1)⟩
theorem jD.trans {X:Id} {σ1 σ2 σ3:ax} (h:jD X σ1 σ2) (k:jD X σ2 σ3):jD X σ1 σ3:=⟨Nat.le_trans h.1 k.1,fun i hi hv=>(k.2 i hi (Nat.lt_of_lt_of_le hv h.1)).trans (h.2 i hi hv)⟩
theorem gS (bs:List Int) (hb:∀b∈bs,0<=b/\b<=255) (iz:bs.length<=4096) (X:Id) (n:Int) (A:Nat) (ha:A<=1073741000) (σ:ax) (h:eL σ.get X bs A):
  Call Tryz.prog 52 [.ptr X 0 0,.int .i64 n] σ fun r σ'=>∃v:Int,r=.int .i64 v/\0<=v/\(v=0∨v<n)/\eL σ'.get X bs (A+2)/\jD X σ σ':=by
 refine eZ fx rfl fun fD=>?_
 clear fD
 by_cases sC:n<=1
 ·(try((repeat(revert N;apply Pn.out));refine wk @sC ?_;(repeat(apply Pn.mk;intro N hN))))
  exact eo (.inl rfl) (vs:=[.int .i64 0]) (sd @Nat.zero_add) ⟨0,rfl,ae,.inl rfl,h.mono ae,aH,fun i hi _=>rfl⟩
 ·have LK:(n=0)=False:=eq_false ae
  (try((repeat(revert N;apply Pn.out));refine wk @sC ?_;(repeat(apply Pn.mk;intro N hN))))
  refine .inr (ay _ _ _ _ _ (fun r σ1 hq=>?_) (NF bs hb iz X A ae _ h))
  obtain⟨v,rfl,v0,v1,h1,k1⟩:=hq
  apply hN
  clear hN N
  by_cases h2:(200:Int)<n
  ·(try((repeat(revert N;apply Pn.out));refine wk @h2 ?_;(repeat(apply Pn.mk;intro N hN))))
   refine .inr (ay _ _ _ _ _ (fun r σ2 hq=>?_) (NF bs hb iz X (A+1) ae _ h1))
   obtain⟨u,rfl,u0,u1,DQ,k2⟩:=hq
   apply hN
   clear hN N
   have w1:IntKind.i64.wrap (v*256)=v*256:=db ae
   have w2:IntKind.i64.wrap (v*256+u)=v*256+u:=db ae
   (try((repeat(revert N;apply Pn.out));refine wk (tw @LK (tw @w1 @w2)) ?_;(repeat(apply Pn.mk;intro N hN))))
   exact eo (.inl rfl) (vs:=[.int .i64 ((v*256+u).tmod n)]) (sd @Nat.zero_add) ⟨_,rfl,(wL ae ae).1,(wL ae ae).2,DQ,(jD.to (k1.trans (jD.to (n:=σ1.next) k2 ae (Nat.le_refl _))) ae aH:jD X ⟨σ.get,σ.next⟩ ⟨σ2.get,_⟩)⟩
  ·(try((repeat(revert N;apply Pn.out));refine wk (tw @h2 @LK) ?_;(repeat(apply Pn.mk;intro N hN))))
   exact eo (.inl rfl) (vs:=[.int .i64 (v.tmod n)]) (sd @Nat.zero_add) ⟨_,rfl,(wL v0 ae).1,(wL v0 ae).2,h1.mono ae,(jD.to k1 ae aH:jD X ⟨σ.get,σ.next⟩ ⟨σ1.get,_⟩)⟩
theorem BU (bs:List Int) (hb:∀b∈bs,0<=b/\b<=255) (iz:bs.length<=4096) (X:Id) (n:Int) (A:Nat) (ha:A<=1073741000) (σ:ax) (h:eL σ.get X bs A):
  Call Tryz.prog 135 [.ptr X 0 0,.int .i64 n] σ fun r σ'=>∃b:Bool,r=.bool b/\eL σ'.get X bs (A+2)/\jD X σ σ':=by
 refine eZ fx rfl fun fD=>?_
 clear fD
 (try((repeat(revert N;apply Pn.out));refine wk @Nat.zero_add ?_;(repeat(apply Pn.mk;intro N hN))))
 refine .inr (ay _ _ _ _ _ (fun r σ1 hq=>?_) (gS bs hb iz X n A ha _ h))
 obtain⟨v,rfl,v0,v1,h1,k1⟩:=hq
 apply hN
 clear hN N
 (try((repeat(revert N;apply Pn.out));refine wk @Nat.zero_add ?_;(repeat(apply Pn.mk;intro N hN))))
 exact eo (.inl rfl) (vs:=[.bool _]) (by simp only[gU,jj,go_sem, ↓reduceIte,Nat.reduceEqDiff,Nat.reduceAdd,Nat.reduceSub,Nat.reduceLeDiff,reduceCtorEq]<;>rfl) ⟨_,rfl,h1,(jD.to k1 ae aH:jD X ⟨σ.get,σ.next⟩ ⟨σ1.get,_⟩)⟩
theorem BJ (bs:List Int) (σ:ax):
  Call Tryz.prog 51 [.sl (bs.map jf)] σ fun r σ'=>∃X:Id,r=.ptr X 0 0/\σ.next<=X.bq/\X.bq<σ'.next/\eL σ'.get X bs 0/\∀i:Id,i.bq<σ.next->σ'.get i=σ.get i:=by
 refine eZ fx rfl fun fD=>?_
 clear fD
 (try((repeat(revert N;apply Pn.out));refine wk @Nat.zero_add ?_;(repeat(apply Pn.mk;intro N hN))))
 exact eo (.inl rfl) (vs:=[.ptr ⟨51001002,_⟩ 0 0]) (by simp only[gU,jj,go_sem, ↓reduceIte,Nat.reduceEqDiff,Nat.reduceAdd,Nat.reduceSub,Nat.reduceLeDiff,reduceCtorEq]<;>rfl) ⟨_,rfl,aH,aH,⟨0,0,Nat.le_refl _,sl @Nat.zero_add⟩,fun i hi=>by have hv:=bZ hi;simp only[go_sem, ↓reduceIte,Nat.reduceEqDiff,Nat.reduceAdd,Nat.reduceSub,Nat.reduceLeDiff,reduceCtorEq,hv]⟩
def pZ (g:Rows) (X:Id) (bs:List Int) (a:Nat) (z:Int):Prop:=g X=some ⟨true,3,[[.sl (bs.map jf),.int .i64 (a:Int),.int .u64 z]]⟩
theorem Uk (bs:List Int) (hb:∀b∈bs,0<=b/\b<=255) (iz:bs.length<=4096) (a:Nat) (haA:a<=1073741824) (z:Int):
  ∃v z':Int,(∀(X:Id) (σ:ax),pZ σ.get X bs a z->Call Tryz.prog 117 [.ptr X 0 0] σ fun r σ'=>r=.int .i64 v/\pZ σ'.get X bs (a+1) z'/\jD X σ σ')/\0<=v/\v<=255:=by
 have fc:(bs.map jf).length=bs.length:=by simp
 have w1:IntKind.i64.wrap ((a:Int)+1)=((a+1:Nat):Int):=(db ae).trans ae
 by_cases ha:(a:Int)<(bs.length:Int)
 ·have Kk:(bs.map jf)[a]? =some [.int .u8 (bs.getD a 0)]:=getD_map jf ae
  have Gu:=hb (bs.getD a 0) (by rw[List.getD_eq_getElem?_getD,List.getElem?_eq_getElem (by omega:a<bs.length)];exact List.getElem_mem ae)
  generalize bs.getD a 0=b at Kk Gu
  have w2:IntKind.i64.wrap b=b:=db ae
  have hle:((a+1:Nat):Int)<=(bs.length:Int):=ae
  apply Exists.intro b
  apply Exists.intro
  refine⟨fun X σ hg=>?_,Gu.1,Gu.2⟩
  unfold pZ at hg
  refine eZ fx rfl fun fD=>?_
  clear fD
  (try((repeat(revert N;apply Pn.out));refine wk (tw @hg (tw @fc (tw @ha (tw @Kk (tw @w1 (tw @w2 @hle)))))) ?_;(repeat(apply Pn.mk;intro N hN))))
  exact eo (.inl rfl) (vs:=[.int .i64 b]) (sd @Nat.zero_add) ⟨rfl,by unfold pZ;simp only[go_sem, ↓reduceIte,Nat.reduceEqDiff,Nat.reduceAdd,Nat.reduceSub,Nat.reduceLeDiff,reduceCtorEq];rfl,aH,fun i hi _=>sd @hi⟩
 ·have hle:decide (((a+1:Nat):Int)<=(bs.length:Int))=false:=decide_eq_false ae
  apply Exists.intro
  apply Exists.intro
  refine⟨fun X σ hg=>?_,?_⟩
  ·unfold pZ at hg
   refine eZ fx rfl fun fD=>?_
   clear fD
   (try((repeat(revert N;apply Pn.out));refine wk (tw @hg (tw @fc (tw @ha (tw @w1 @hle)))) ?_;(repeat(apply Pn.mk;intro N hN))))
   exact eo (.inl rfl) (vs:=[.int .i64 _]) (by simp only[gU,jj,go_sem, ↓reduceIte,Nat.reduceEqDiff,Nat.reduceAdd,Nat.reduceSub,Nat.reduceLeDiff,reduceCtorEq]<;>rfl) ⟨rfl,by unfold pZ;simp only[go_sem, ↓reduceIte,Nat.reduceEqDiff,Nat.reduceAdd,Nat.reduceSub,Nat.reduceLeDiff,reduceCtorEq];rfl,aH,fun i hi _=>sd @hi⟩
  ·exact ym _
theorem Dq (bs:List Int) (hb:∀b∈bs,0<=b/\b<=255) (iz:bs.length<=4096) (n:Int) (sC:1<n) (Pa:n<=200) (a:Nat) (haA:a<=1073741824) (z:Int):
  ∃v z':Int,(∀(X:Id) (σ:ax),pZ σ.get X bs a z->Call Tryz.prog 52 [.ptr X 0 0,.int .i64 n] σ fun r σ'=>r=.int .i64 v/\pZ σ'.get X bs (a+1) z'/\jD X σ σ')/\0<=v/\v<n:=by
 obtain⟨v,z',hc,v0,v1⟩:=Uk bs hb iz a haA z
 have LK:(n=0)=False:=eq_false ae
 have h1:¬n<=1:=ae
 have h2:¬(200:Int)<n:=ae
 refine⟨v.tmod n,z',fun X σ hg=>?_,(wL v0 ae).1,by have:=(wL v0 (show 0<n by omega)).2;omega⟩
 refine eZ fx rfl fun fD=>?_
 clear fD
 (try((repeat(revert N;apply Pn.out));refine wk @h1 ?_;(repeat(apply Pn.mk;intro N hN))))
 refine .inr (ay _ _ _ _ _ (fun r σ1 hq=>?_) (hc X _ hg))
 obtain⟨rfl,q1,k1⟩:=hq
 apply hN
 clear hN N
 (try((repeat(revert N;apply Pn.out));refine wk (tw @h2 @LK) ?_;(repeat(apply Pn.mk;intro N hN))))
 exact eo (.inl rfl) (vs:=[.int .i64 (v.tmod n)]) (sd @Nat.zero_add) ⟨rfl,q1,(jD.to k1 ae aH:jD X ⟨σ.get,σ.next⟩ ⟨σ1.get,_⟩)⟩
theorem KA (bs:List Int) (σ:ax):
  Call Tryz.prog 51 [.sl (bs.map jf)] σ fun r σ'=>∃X:Id,r=.ptr X 0 0/\σ.next<=X.bq/\X.bq<σ'.next/\pZ σ'.get X bs 0 0:=by
 refine eZ fx rfl fun fD=>?_
 clear fD
 (try((repeat(revert N;apply Pn.out));refine wk @Nat.zero_add ?_;(repeat(apply Pn.mk;intro N hN))))
 exact eo (.inl rfl) (vs:=[.ptr ⟨51001002,_⟩ 0 0]) (by simp only[gU,jj,go_sem, ↓reduceIte,Nat.reduceEqDiff,Nat.reduceAdd,Nat.reduceSub,Nat.reduceLeDiff,reduceCtorEq]<;>rfl) ⟨_,rfl,aH,aH,by unfold pZ;simp only[go_sem, ↓reduceIte,Nat.reduceEqDiff,Nat.reduceAdd,Nat.reduceSub,Nat.reduceLeDiff,reduceCtorEq]<;>rfl⟩
theorem PG (bs:List Int) (hb:∀b∈bs,0<=b/\b<=255) (iz:bs.length<=4096):∃F:Nat->Int->Int×Int,∀a z,a<=1073741824->(∀(X:Id) (σ:ax),pZ σ.get X bs a z->Call Tryz.prog 52 [.ptr X 0 0,.int .i64 20] σ fun r σ'=>r=.int .i64 (F a z).1/\pZ σ'.get X bs (a+1) (F a z).2/\jD X σ σ')/\0<=(F a z).1/\(F a z).1<20:=by
 classical
 refine⟨fun a z=>if h:a<=1073741824 then((Dq bs hb iz 20 ae ae a h z).choose,(Dq bs hb iz 20 ae ae a h z).choose_spec.choose)else(0,0),fun a z h=>?_⟩
 simp only[dif_pos h]
 exact(Dq bs hb iz 20 ae ae a h z).choose_spec.choose_spec
def sk (F:Nat->Int->Int×Int):Nat->Nat->Int->List Int
 |0,_,_=>[]
 |m+1,a,z=>(F a z).1::sk F m (a+1) (F a z).2
theorem Bp (F:Nat->Int->Int×Int):∀m a z,(sk F m a z).length=m
 |0,_,_=>rfl
 |m+1,a,z=>by rw[sk,List.length_cons,Bp F m]
theorem AA (bs:List Int) (hb:∀b∈bs,0<=b/\b<=255) (iz:bs.length<=4096):
  ∃dX:List Int,aw Tryz.prog 14 [.sl (bs.map jf)] (.sl (dX.map aM))/\(∀x∈dX,0<=x/\x<=19)/\dX.length<=6:=by
 obtain⟨F,hF⟩:=PG bs hb iz
 obtain⟨k,z1,hk,k0,k7⟩:=Dq bs hb iz 7 ae ae 0 ae 0
 obtain⟨m,rfl⟩:=Int.eq_ofNat_of_zero_le k0
 have W5:∀n a z,a+n<=1000->∀x∈sk F n a z,0<=x/\x<=19:=fun n=>by
  induction n with
  |zero=>intro a z _ x hx;cases hx
  |succ n ih=>
   intro a z ha x hx
   rw[sk]at hx
   rcases List.mem_cons.1 hx with rfl|hx
   ·have:=(hF a z ae).2;omega
   ·exact ih _ _ ae x hx
 refine⟨sk F m 1 z1,?_,W5 m 1 z1 ae,by rw[Bp];omega⟩
 refine aw.body fx rfl fun fD n0=>?_
 clear fD
 (try((repeat(revert N;apply Pn.out));refine wk @Nat.zero_add ?_;(repeat(apply Pn.mk;intro N hN))))
 refine .inr (ay _ _ _ _ _ (fun r σ1 hq=>?_) (KA bs _))
 obtain⟨X,rfl,x0,x1,hs⟩:=hq
 apply hN
 clear hN N
 have vX:=bZ x1
 have LL:pZ (bI σ1.get ⟨14002000,σ1.next+1⟩ ⟨true,1,[]⟩) X bs 0 0:=by
  unfold pZ at hs ⊢
  simp only[go_sem, ↓reduceIte,Nat.reduceEqDiff,Nat.reduceAdd,Nat.reduceSub,Nat.reduceLeDiff,reduceCtorEq,vX]<;>exact hs
 (try((repeat(revert N;apply Pn.out));refine wk @Nat.zero_add ?_;(repeat(apply Pn.mk;intro N hN))))
 refine .inr (ay _ _ _ _ _ (fun r σ2 hq=>?_) (hk X _ LL))
 obtain⟨rfl,h2,k2⟩:=hq
 have hw:=k2.2 ⟨14002000,σ1.next+1⟩ (fun e=>by rw[<-e]at x1;(try dsimp only at x1);omega) aH
 have Pa:=k2.1
 (try dsimp only at Pa)
 simp only[go_sem, ↓reduceIte,Nat.reduceEqDiff,Nat.reduceAdd,Nat.reduceSub,Nat.reduceLeDiff,reduceCtorEq]at hw
 clear vX hs LL k2
 apply hN
 clear hN N
 (try((repeat(revert N;apply Pn.out));refine wk @Nat.zero_add ?_;(repeat(apply Pn.mk;intro N hN))))
 refine cm (fun i env st=>∃(dX:List Int) (w:Id) (z:Int),env 5=.int .i64 (i:Int)/\env 4=.own w 0 dX.length/\st.get w=some ⟨true,1,dX.map aM⟩/\pZ st.get X bs (1+dX.length) z/\i+dX.length=m/\dX++sk F i (1+dX.length) z=sk F m 1 z1/\w.bq<st.next/\X.bq<st.next/\w≠X) m ⟨[],⟨14002000,σ1.next+1⟩,z1,sd @Nat.zero_add,sl @Nat.zero_add,hw,h2,by simp,rfl,aH,aH,fun e=>by rw[<-e]at x1;(try dsimp only at x1);omega⟩ ?_
 rintro i env_b st_b ⟨dX,w,z,b5,b4,gw,hs,hl,hr,vw,vx,iI⟩ eS
 have b3:=eS 3 (by kernel_rfl)
 simp only[go_sem, ↓reduceIte,Nat.reduceEqDiff,Nat.reduceAdd,Nat.reduceSub,Nat.reduceLeDiff,reduceCtorEq]at b3
 clear eS
 by_cases hm:(0:Int)<(i:Int)
 ·obtain⟨i,rfl⟩:∃j,i=j+1:=⟨i-1,ae⟩
  obtain⟨hc,u0,u1⟩:=hF (1+dX.length) z ae
  rw[sk]at hr
  generalize hFv:F (1+dX.length) z=q0 at *
  obtain⟨u,z2⟩:=q0
  (try dsimp only at hc u0 u1 hr)
  (try((repeat(revert N;apply Pn.out));refine wk (tw @b3 (tw @b4 (tw @b5 @hm))) ?_;(repeat(apply Pn.mk;intro N hN))))
  refine .inr (ay _ _ _ _ _ (fun r σ3 hq=>?_) (hc X _ hs))
  obtain⟨rfl,h3,k3⟩:=hq
  have gw3:=(k3.2 w iI aH).trans gw
  have Xo:=k3.1
  (try dsimp only at Xo)
  clear k3
  have vw3:=bZ (i:=w) (n:=σ3.next) ae
  have vx3:=bZ (i:=X) (n:=σ3.next) ae
  have wm:IntKind.i64.wrap (((i+1:Nat):Int)-1)=(i:Int):=(db ae).trans ae
  apply hN
  clear hN N
  have MZ:dX.length<=16777215:=ae
  have e1:(X=w)=False/\(w=X)=False:=⟨eq_false fun e=>iI e.symm,eq_false iI⟩
  have hms:(dX++[u]).map aM=dX.map aM++[aM u]:=by simp
  have v7:(dX++[u]).length=dX.length+1:=by simp
  rw[aM]at hms
  unfold pZ at h3
  (try((repeat(revert N;apply Pn.out));refine wk (tw @b3 (tw @b4 (tw @b5 (tw @gw3 (tw @vw3 (tw @wm @MZ)))))) ?_;(repeat(apply Pn.mk;intro N hN))))
  refine⟨i,ae,dX++[u],⟨14006004,σ3.next⟩,z2,sl @Nat.zero_add,sl @v7,sl @hms,by unfold pZ;rw[v7];simp only[go_sem, ↓reduceIte,Nat.reduceEqDiff,Nat.reduceAdd,Nat.reduceSub,Nat.reduceLeDiff,reduceCtorEq,vx3,e1];exact h3,by rw[v7];omega,by rw[v7,List.append_assoc];exact hr,aH,aH,fun e=>by have:=congrArg Id.bq e;(try dsimp only at this);omega⟩
 ·obtain rfl:i=0:=ae
  (try((repeat(revert N;apply Pn.out));refine wk (tw @b3 (tw @b4 (tw @b5 @hm))) ?_;(repeat(apply Pn.mk;intro N hN))))
  rw[sk,List.append_nil]at hr
  exact⟨[.own w 0 dX.length],sd @b4,_,by simp only[hZ];exact eT (e:=aM) gw rfl fun x=>S4 _ _ _,by rw[hr]⟩
theorem GJ (s:az) (l:List aa) (t:Int) (hn:im s) (hm:Ro s) (hl:l.length<=1048576) (hS:gy s) (hA:gx s l) (h1:1<=l.length) (ht:ik t 1 16=true):
  aw Tryz.prog 36 [.agg (ah s),.agg [.sl (l.map ab)],.int .i64 t] (.fP [.bool (if 64<lZ s l t then false else sI s l t),.int .i64 (if 64<lZ s l t then 4 else 0)]):=by
 have hv:=lL s l hn hm.g hm.t (fun t ht=>hm.s t ht) hl
 rw[ml.2 hA,show rZ s=true from mM.2 hS]at hv
 have hT:=pA t
 rw[ht]at hT
 have ed:=Gc CA s l t (by have:=(dY ht).2;omega) h1 hS hA
 refine aw.body fx rfl fun fD n0=>?_
 clear fD
 rw[ah]at hv ed ⊢
 by_cases s9:64<lZ s l t
 ·rw[decide_eq_false (fun h=>h s9)]at ed
  rw[if_pos s9,if_pos s9]
  (repeat(first|((repeat(revert N;apply Pn.out));refine wk @Nat.zero_add ?_;(repeat(apply Pn.mk;intro N hN)))|((try apply Or.inl);refine⟨_,aw.x (hv) (sd @Nat.zero_add),?_⟩;apply hN;clear hN N)|((try apply Or.inl);refine⟨_,aw.x (hT) (sd @Nat.zero_add),?_⟩;apply hN;clear hN N)|((try apply Or.inl);refine⟨_,aw.x (ed) (sd @Nat.zero_add),?_⟩;apply hN;clear hN N)))
  exact lY (.inl rfl) (r1:=.bool false) (r2:=.int .i64 4) (sd @Nat.zero_add) (sd @Nat.zero_add) (by simp only[fo,bx,cw,gj,ej,Option.map_some])
 ·rw[decide_eq_true s9]at ed
  rw[if_neg s9,if_neg s9]
  (repeat(first|((repeat(revert N;apply Pn.out));refine wk @Nat.zero_add ?_;(repeat(apply Pn.mk;intro N hN)))|((try apply Or.inl);refine⟨_,aw.x (hv) (sd @Nat.zero_add),?_⟩;apply hN;clear hN N)|((try apply Or.inl);refine⟨_,aw.x (hT) (sd @Nat.zero_add),?_⟩;apply hN;clear hN N)|((try apply Or.inl);refine⟨_,aw.x (ed) (sd @Nat.zero_add),?_⟩;apply hN;clear hN N)))
  exact lY (.inl rfl) (r1:=.bool (sI s l t)) (r2:=.int .i64 0) (sd @Nat.zero_add) (sd @Nat.zero_add) (by simp only[fo,bx,cw,gj,ej,Option.map_some])
theorem JD (bs:List Int) (hb:∀b∈bs,0<=b/\b<=255) (iz:bs.length<=4096) (n:Int) (hn:0<n):kb Tryz.prog 9 [.sl (bs.map jf),.int .i64 n] fun r=>∃k:Nat,r=.int .i64 (k:Int)/\(k:Int)<n:=by
 refine kb.body fx rfl fun fD n0=>?_
 clear fD
 (try((repeat(revert N;apply Pn.out));refine wk @Nat.zero_add ?_;(repeat(apply Pn.mk;intro N hN))))
 refine .inr (ay _ _ _ _ _ (fun r σ1 hq=>?_) (BJ bs _))
 obtain⟨X,rfl,x0,x1,hs,hK⟩:=hq
 clear hK
 apply hN
 clear hN N
 (try((repeat(revert N;apply Pn.out));refine wk @Nat.zero_add ?_;(repeat(apply Pn.mk;intro N hN))))
 refine .inr (ay _ _ _ _ _ (fun r σ2 hq=>?_) (gS bs hb iz X n 0 ae _ hs))
 obtain⟨v,rfl,v0,v1,h2,k2⟩:=hq
 obtain⟨m,rfl⟩:=Int.eq_ofNat_of_zero_le v0
 apply hN
 clear hN N
 (try((repeat(revert N;apply Pn.out));refine wk @Nat.zero_add ?_;(repeat(apply Pn.mk;intro N hN))))
 exact⟨[.int .i64 (m:Int)],sd @Nat.zero_add,_,by simp only[hZ,ej],m,rfl,ae⟩
theorem pY (s:au) (es:List aa) (hn:im s.aD) (hm:sf s) (hl:es.length<=1048576):aw Tryz.prog 35 [.agg (ck s),.sl (es.map ab)] (.fP [.agg [KZ s es],.int .i64 (D5 s es).1,.int .i64 (D5 s es).2]):=fun n=>
 ay _ _ _ _ _ (fun r σ' hq=>by
  obtain⟨v,rfl,hv,_⟩:=hq
  rcases hv with⟨h,rfl⟩|⟨h,o,rfl,ho,_⟩
  ·exact⟨_,by simp only[fo,bx,cw,l5,jH,ej,Option.map_some]<;>rfl,by rw[KZ,if_neg h]⟩
  ·have hz:=eT (n:=3) (e:=ab) ho rfl fun x=>by simp[ab,bx,cw,ej]
   exact⟨_,by simp only[fo,bx,cw,l5,hz,ej,Option.map_some]<;>rfl,by rw[KZ,if_pos h]⟩) (yh s es hn hm hl ⟨fun _=>none,n⟩)
noncomputable def CV (s:au) (dX:List Int) (steps:Nat):AV:=if j8 s then(match qt s dX steps with
 |some es=>.fP [AY ab es,.agg [.sl ((dn s es es.length).map ab)],.int .i64 0]
 |none=>.fP [.bj,.agg [.bj],.int .i64 4])else .fP [.bj,.agg [.bj],.int .i64 1]
theorem LU.val {σ σ':ax} {s:au} {dX:List Int} {steps:Nat} {r:AV} (h:LU σ s dX steps r σ'):fz σ'.get 6 r=some (CV s dX steps):=by
 unfold CV
 rcases h with⟨h0,rfl,_⟩|⟨h0,_,_,h⟩
 ·rw[h0]
  simp only[bz,aq,ar,bp,aQ,aV,Option.map_some]
  rfl
 ·rw[h0]
  rcases h with⟨hg,rfl⟩|⟨es,v,o,hg,_,rfl,hL,ho,_⟩
  ·rw[hg]
   simp only[bz,aq,ar,bp,aQ,aV,Option.map_some]
   rfl
  ·rw[hg]
   have hz:=jT (n:=3) (e:=ab) ho rfl fun x=>by simp[ab,aq,ar,aV]
   have hv:fz σ'.get 5 v=some (AY ab es):=by
    rcases hL with⟨rfl,rfl⟩|⟨u,rfl,hu,_,_,h0,_⟩
    ·rw[aQ];rfl
    ·rw[jT (n:=4) (e:=ab) hu rfl fun x=>by simp[ab,aq,ar,aV],AY,if_neg ae]
   simp only[bz,aq,ar,bp,hz,hv,aV,Option.map_some]
   rw[if_pos trivial]
theorem ib.ro {g:Rows} (h:ib g):ib (V.ro g):=by
 obtain⟨⟨b,h1⟩,c,h2⟩:=h
 exact⟨⟨false,by unfold V.ro;rw[h1];rfl⟩,false,by unfold V.ro;rw[h2];rfl⟩
theorem pW {σ:ax} (s:au) (hn:im s.aD) (hm:sf s) (hE:ib σ.get) (sC:1<=σ.next) {dX:List Int} (hs:∀x∈dX,0<=x/\x<=1000) (qZ:dX.length<=200) (steps:Nat) (ed:steps<=500):
  fB (Call Tryz.prog) 33 [.agg (ck s),.sl (dX.map aM),.int .i64 (steps:Int)] σ (fun r'=>r'=CV s dX steps):=by
 unfold fB PC
 exact Or.inl (ay _ _ _ _ _ (fun _ _ hq=>⟨_,hq.val,rfl⟩) (Eb (σ:=⟨V.ro σ.get,σ.next⟩) s hn hm hE.ro sC hs qZ steps ed))
theorem KF (a:List aa) (ha:a.length<=1048576):aw Tryz.prog 64 [.ef [.sl (a.map ab)],.ef [.sl (a.map ab)]] (.bool true):=by
 refine aw.body fx rfl fun hl n0=>?_
 clear hl
 have fc:(a.map ab).length=a.length:=by simp
 have hd:∀x:Int,decide (x=x)=true:=fun x=>decide_eq_true rfl
 (try((repeat(revert N;apply Pn.out));refine wk (tw @fc @hd) ?_;(repeat(apply Pn.mk;intro N hN))))
 refine cm (fun n env st=>∃k:Nat,n=(a.length)-k/\k<=(a.length)/\env 5=.int .i64 (k:Int)) (a.length) ⟨0,ae,ae,sl (tw @fc @hd)⟩ ?_
 rintro n_b env_b st_b ⟨k,rfl,ble,b5⟩ eS
 have b0:=eS 0 (by kernel_rfl);have b1:=eS 1 (by kernel_rfl)
 simp only[go_sem, ↓reduceIte,Nat.reduceEqDiff,Nat.reduceAdd,Nat.reduceSub,Nat.reduceLeDiff,reduceCtorEq,fc,hd]at b0 b1
 clear eS
 by_cases hk:(k:Int)<(a.length:Int)
 ·have fb:∀{e:Env},(e 5=.int .i64 (IntKind.i64.wrap ((k:Int)+1)))->∃m0,m0<(a.length)-k/\∃k:Nat,m0=(a.length)-k/\k<=(a.length)/\e 5=.int .i64 (k:Int):=fun x1=>⟨_,ae,k+1,rfl,ae,(by rw[x1,bf ae])⟩
  have iy:=fM (l:=a) (i:=k) ae
  rw[ab]at iy
  (try((repeat(revert N;apply Pn.out));refine wk (tw @b5 (tw @b0 (tw @b1 (tw @hk (tw @iy (tw @fc (tw @hd (tw @Bool.and_true @Bool.not_true)))))))) ?_;(repeat(apply Pn.mk;intro N hN))))
  exact fb (sd (tw @b5 (tw @b0 @b1)))
 ·(try((repeat(revert N;apply Pn.out));refine wk (tw @b5 (tw @b0 (tw @b1 (tw @hk @fc)))) ?_;(repeat(apply Pn.mk;intro N hN))))
  exact da (b:=true) (.inl rfl) (sd @Nat.zero_add) rfl
theorem yk (a:List aa) (ha:a.length<=1048576):aw Tryz.prog 29 [.agg [.sl (a.map ab)],.agg [.sl (a.map ab)]] (.bool true):=by
 refine aw.body fx rfl fun hl n0=>?_
 clear hl
 have h1:=KF a ha
 (repeat(first|((repeat(revert N;apply Pn.out));refine wk @Nat.zero_add ?_;(repeat(apply Pn.mk;intro N hN)))|((try apply Or.inl);refine⟨_,aw.x (h1) (sd @Nat.zero_add),?_⟩;apply hN;clear hN N)))
 exact da (b:=true) (.inl rfl) (sd @Nat.zero_add) rfl
end Go.Proofs.YtainmfbpilopaaaGreatDoor.V

namespace Go.Proofs.YtainmfbpilopaaaGreatDoor
open Go.RowKit
def iY (k:Int):ByteArray:=if k=0 then⟨#[48]⟩else⟨(vQ k.toNat).toArray⟩
theorem EF (w:World) (k:Int) (h0:0<=k) (h1:k<=4611686018427387904):
  Calls Tryz.prog 60 #[.int .i64 k] w fun e w'=>e=.returned (.string (iY k))/\Below w.heap.size w w':=by
 go_enter Tryz.func60,Tryz.ntmps60
 go_wp2_with fail
 go_loopw [4,3] (fun a s wr=>∃(j:Int) (l:ByteArray),a=.int .i64 j/\s=.string l/\0<=j/\j<=4611686018427387904/\Hid (vQ j.toNat++l.data.toList=vQ k.toNat)/\Below w.heap.size w wr) (fun a _ _=>(intOf a).toNat)
 case atStart=>exact⟨k,⟨#[]⟩,rfl,rfl,h0,h1,Lib.hid (by simp),Below.refl _ _⟩
 case round=>
  obtain⟨j,l,rfl,rfl,RI,VV,hd,hb⟩:=hrel
  have iT:l.size<=19:=by
   have h1:=congrArg List.length hd.out
   have h2:=yJ 19 k.toNat (by omega)
   rw[List.length_append]at h1
   have:l.data.toList.length=l.size:=by rw[Array.length_toList];rfl
   omega
  by_cases hj:j=0
  ·subst hj
   by_cases hk:k=0
   ·go_wp2_with fail
    go_ret
    exact⟨by simp[iY,hk],hb⟩
   ·have Hv:¬k<0:=by omega
    go_wp2_with fail
    go_ret
    refine⟨?_,hb⟩
    have h1:=hd.out
    rw[show(0:Int).toNat=0 by rfl,JZ,List.nil_append]at h1
    have h2:l=iY k:=by
     rw[iY,if_neg hk]
     refine ByteArray.ext (Array.ext' ?_)
     rw[h1]
    rw[h2];rfl
  ·have MR:∀v:Int,(convert 22 9 (.slice (some ⟨wr.heap.size,0,none⟩) 1 1)).run Tryz.prog (wr.alloc (.cells #[.int .u8 v] 5))=.ok (.string ⟨#[UInt8.ofNat v.toNat]⟩) (wr.alloc (.cells #[.int .u8 v] 5)):=by
    intro v
    rw[run_convert_bytes_string _ _ _ 5 _ _ _ Tryz.underlying22 Tryz.underlying5 Tryz.underlying9,run_bytesToString _ _ _ _ [v] (by simp[loadCells,loadCellsFrom,go_sem])]
    rfl
   have hr:=iT
   go_wp2_with fail
   refine⟨⟨_,_,rfl,rfl,by omega,by omega,Lib.hid ?_,hb.alloc hb.size _⟩,by simp[intOf];omega⟩
   rw[<-hd.out,JS,Mo (show j.toNat≠0 by omega),show(j / 10).toNat=j.toNat / 10 by omega,show(48+j % 10).toNat=48+j.toNat % 10 by omega]
   simp
end Go.Proofs.YtainmfbpilopaaaGreatDoor
namespace Go.Proofs.YtainmfbpilopaaaGreatDoor.V
open Go.RowKit
theorem ma (k:Int) (h0:0<=k) (h1:k<=4611686018427387904):aw Tryz.prog 60 [.int .i64 k] (.str (iY k)):=
 nC (vs0:= #[.int .i64 k]) (u0:=.string (iY k)) (fun _ _ _ _=>QK) (fun w D ι=>.eX _ _ (.str _)) (fun g=>CR g 5 _) fun w=>EF w k h0 h1
theorem jm (k:Int) (h1:k<=4611686018427387904):(iY k).size<=20:=by
 unfold iY
 split
 ·decide
 ·have h2:=yJ 20 k.toNat ae
  show(vQ k.toNat).toArray.size<=20
  simpa using h2
theorem gM (a b:ByteArray):(a++b).size=a.size+b.size:=ByteArray.size_append
def nr (E:Nat->Prop) (n0:Nat) (g:Rows) (n:Nat) (e:Id) (c:Nat):Prop:=E e.site/\n0<=e.bq/\e.bq<n/\∃l:List Int,l.length=c/\g e=some ⟨true,1,l.map aM⟩
theorem nr.frame {E:Nat->Prop} {n0:Nat} {g g':Rows} {n n':Nat} {e:Id} {c:Nat} (h:nr E n0 g n e c) (hn:n<=n') (hf:∀i:Id,E i.site->n0<=i.bq->i.bq<n->g' i=g i):nr E n0 g' n' e c:=by
 obtain⟨h1,h2,h3,l,h4,h5⟩:=h
 exact⟨h1,h2,ae,l,h4,(hf e h1 h2 h3).trans h5⟩
def iN (E:Nat->Prop) (n0:Nat) (g:Rows) (n:Nat) (rows:List (List AV)):Prop:=∀row∈rows,∃(nm:ByteArray) (e:Id),row=[.str nm,.own e 0 4]/\(nm.size<=64/\1<=nm.size)/\nr E n0 g n e 4
theorem iN.frame {E:Nat->Prop} {n0:Nat} {g g':Rows} {n n':Nat} {rows:List (List AV)} (h:iN E n0 g n rows) (hn:n<=n') (hf:∀i:Id,E i.site->n0<=i.bq->i.bq<n->g' i=g i):iN E n0 g' n' rows:=fun row hr=>by
 obtain⟨nm,e,h1,h2,h3⟩:=h row hr
 exact⟨nm,e,h1,h2,h3.frame hn hf⟩
theorem iN.snoc {E:Nat->Prop} {n0:Nat} {g:Rows} {n:Nat} {rows:List (List AV)} (h:iN E n0 g n rows) {nm:ByteArray} {e:Id} (hs:nm.size<=64/\1<=nm.size) (he:nr E n0 g n e 4):iN E n0 g n (rows++[[.str nm,.own e 0 4]]):=fun row hr=>by
 rcases List.mem_append.1 hr with h1|h1
 ·exact h row h1
 ·exact⟨nm,e,List.mem_singleton.1 h1,hs,he⟩
theorem iN.fz {E:Nat->Prop} {n0:Nat} {g:Rows} {n:Nat}:∀{rows:List (List AV)},iN E n0 g n rows->∃L:List jy,L.length=rows.length/\(∀t∈L,t.cZ.size<=64/\t.dW.length=4)/\∀k,gI g (k+2) rows=some (L.map dx)
 |[],_=>⟨[],rfl,(fun t ht=>nomatch ht),fun k=>by(try simp only[List.map_nil]);rw[gI.eq_def]⟩
 |row::rows,h=>by
  obtain⟨L,h1,h2,h3⟩:=iN.fz (rows:=rows) fun r hr=>h r (List.mem_cons_of_mem _ hr)
  obtain⟨nm,e,h4,h5,h6⟩:=h row List.mem_cons_self
  obtain⟨_,_,_,l,h7,h8⟩:=h6
  subst h4
  refine⟨⟨nm,l⟩::L,by simp[h1],fun t ht=>?_,fun k=>?_⟩
  ·rcases List.mem_cons.1 ht with rfl|ht
   ·exact⟨h5.1,h7⟩
   ·exact h2 t ht
  ·have h9:iu g (k+2) (.own e 0 4)=some (.sl (l.map aM)):=by
    rw[<-h7];exact eT (e:=aM) h8 rfl fun x=>S4 g k x
   rw[gI,bx,CR,bx,h9,cw,h3 k]
   rfl
theorem nr.write {E:Nat->Prop} {n0:Nat} {g:Rows} {n:Nat} {e u:Id} {l:List Int} (h:nr E n0 g n u 4) (hl:l.length=4):nr E n0 (bI g e ⟨true,1,l.map aM⟩) n u 4:=by
 obtain⟨h1,h2,h3,k,h4,h5⟩:=h
 by_cases hu:u=e
 ·subst hu;exact⟨h1,h2,h3,l,hl,by simp[bI]⟩
 ·exact⟨h1,h2,h3,k,h4,by simp[bI,hu,h5]⟩
theorem iN.write {E:Nat->Prop} {n0:Nat} {g:Rows} {n:Nat} {rows:List (List AV)} {e:Id} {l:List Int} (h:iN E n0 g n rows) (hl:l.length=4):iN E n0 (bI g e ⟨true,1,l.map aM⟩) n rows:=fun row hr=>by
 obtain⟨nm,u,h1,h2,h3⟩:=h row hr
 exact⟨nm,u,h1,h2,h3.write hl⟩
theorem iN.get {E:Nat->Prop} {n0:Nat} {g:Rows} {n:Nat} {rows:List (List AV)} (h:iN E n0 g n rows) {k:Nat} (hk:k<rows.length):∃(nm:ByteArray) (e:Id),rows[k]? =some [.str nm,.own e 0 4]/\nr E n0 g n e 4:=by
 obtain⟨nm,e,h1,_,h3⟩:=h _ (List.getElem_mem hk)
 exact⟨nm,e,by rw[List.getElem?_eq_getElem hk,h1],h3⟩
theorem tC (c:UInt8) (dt:ByteArray):1<=((⟨#[c]⟩:ByteArray)++dt).size:=by
 rw[gM]
 have:(⟨#[c]⟩:ByteArray).size=1:=rfl
 omega
def fN (n0:Nat) (g:Rows) (n:Nat) (v:AV) (k:Nat):Prop:=(k=0/\v=.bj)∨(0<k/\∃(o:Id) (L:List kU),v=.own o 0 k/\L.length=k/\g o=some ⟨true,2,L.map dZ⟩/\(∀x∈L,x.cZ.size<=64)/\n0<=o.bq/\o.bq<n)
def fZ (E:Nat->Prop) (n0:Nat) (g:Rows) (n:Nat) (v:AV) (k:Nat):Prop:=(k=0/\v=.bj)∨(0<k/\∃(o:Id) (rows:List (List AV)),v=.own o 0 k/\rows.length=k/\g o=some ⟨true,2,rows⟩/\iN E n0 g n rows/\¬E o.site/\n0<=o.bq/\o.bq<n)
theorem fN.frame {n0:Nat} {g g':Rows} {n n':Nat} {v:AV} {k:Nat} (h:fN n0 g n v k) (hn:n<=n') (hf:∀i:Id,n0<=i.bq->i.bq<n->g' i=g i):fN n0 g' n' v k:=by
 rcases h with h|⟨h0,o,L,h1,h2,h3,h4,h5,h6⟩
 ·exact .inl h
 ·exact .inr ⟨h0,o,L,h1,h2,(hf o h5 h6).trans h3,h4,h5,ae⟩
theorem fZ.frame {E:Nat->Prop} {n0:Nat} {g g':Rows} {n n':Nat} {v:AV} {k:Nat} (h:fZ E n0 g n v k) (hn:n<=n') (hf:∀i:Id,n0<=i.bq->i.bq<n->g' i=g i):fZ E n0 g' n' v k:=by
 rcases h with h|⟨h0,o,L,h1,h2,h3,h4,h5,h6,h7⟩
 ·exact .inl h
 ·exact .inr ⟨h0,o,L,h1,h2,(hf o h6 h7).trans h3,h4.frame hn fun i _ a b=>hf i a b,h5,h6,ae⟩
theorem fN.fz {n0:Nat} {g:Rows} {n:Nat} {v:AV} {k:Nat} (h:fN n0 g n v k) (hk:0<k):∃L:List kU,L.length=k/\(∀x∈L,x.cZ.size<=64)/\∀j,iu g (j+2) v=some (.sl (L.map dZ)):=by
 rcases h with h|⟨h0,o,L,h1,h2,h3,h4,h5,h6⟩
 ·omega
 ·subst h1 h2
  exact⟨L,rfl,h4,fun j=>eT (e:=dZ) h3 rfl fun x=>by simp[dZ,bx,cw,CR,ej]⟩
theorem fZ.fz {E:Nat->Prop} {n0:Nat} {g:Rows} {n:Nat} {v:AV} {k:Nat} (h:fZ E n0 g n v k) (hk:0<k):∃L:List jy,L.length=k/\(∀x∈L,x.cZ.size<=64/\x.dW.length=4)/\∀j,iu g (j+3) v=some (.sl (L.map dx)):=by
 rcases h with h|⟨h0,o,rows,h1,h2,h3,h4,h5,h6⟩
 ·omega
 ·obtain⟨L,q1,q2,q3⟩:=h4.fz
  subst h1
  refine⟨L,ae,q2,fun j=>qU h3 ae ?_⟩
  rw[List.drop_zero,List.take_of_length_le ae]
  exact q3 j
theorem fN.cell {n0:Nat} {g:Rows} {n:Nat} {v:AV} {k:Nat} (h:fN n0 g n v k):v.cells=[v]/\v.cell=true:=by
 rcases h with⟨_,rfl⟩|⟨_,o,L,rfl,_⟩<;>exact⟨rfl,rfl⟩
theorem fZ.cell {E:Nat->Prop} {n0:Nat} {g:Rows} {n:Nat} {v:AV} {k:Nat} (h:fZ E n0 g n v k):v.cells=[v]/\v.cell=true:=by
 rcases h with⟨_,rfl⟩|⟨_,o,L,rfl,_⟩<;>exact⟨rfl,rfl⟩
theorem fN.since {n0 n1:Nat} {g:Rows} {n:Nat} {v:AV} {k:Nat} (h:fN n1 g n v k) (hn:n0<=n1):fN n0 g n v k:=by
 rcases h with h|⟨h0,o,L,h1,h2,h3,h4,h5,h6⟩
 ·exact .inl h
 ·exact .inr ⟨h0,o,L,h1,h2,h3,h4,ae,h6⟩
theorem fZ.since {E:Nat->Prop} {n0 n1:Nat} {g:Rows} {n:Nat} {v:AV} {k:Nat} (h:fZ E n1 g n v k) (hn:n0<=n1):fZ E n0 g n v k:=by
 rcases h with h|⟨h0,o,L,h1,h2,h3,h4,h5,h6⟩
 ·exact .inl h
 ·exact .inr ⟨h0,o,L,h1,h2,h3,fun row hr=>(by
   obtain⟨nm,e,q1,q2,q3,q4,q5⟩:=h4 row hr
   exact⟨nm,e,q1,q2,q3,ae,q5⟩),h5,ae,h6.2⟩
def Cj (E:Nat->Prop) (n0:Nat) (g:Rows) (n:Nat) (v:AV) (k:Nat):Prop:=(k=0/\v=.bj)∨(0<k/\∃e:Id,v=.own e 0 k/\nr E n0 g n e k)
def nI (n0:Nat) (g:Rows) (n:Nat) (r:AV):Prop:=∃(E:Nat->Prop) (vg vt:AV) (kg kt:Nat) (o:Id) (p:aa) (m:Int),r=.agg [vg,vt,.own o 0 1,.int .i64 m]/\fN n0 g n vg kg/\fZ E n0 g n vt kt/\0<kg/\0<kt/\kg<=1000/\kt<=1000/\g o=some ⟨true,3,[ab p]⟩/\n0<=o.bq/\o.bq<n
theorem nI.frame {n0:Nat} {g g':Rows} {n n':Nat} {r:AV} (h:nI n0 g n r) (hn:n<=n') (hf:∀i:Id,n0<=i.bq->i.bq<n->g' i=g i):nI n0 g' n' r:=by
 obtain⟨E,vg,vt,kg,kt,o,p,m,h1,h2,h3,h4,h5,h6,h7,h8,h9,CY⟩:=h
 exact⟨E,vg,vt,kg,kt,o,p,m,h1,h2.frame hn hf,h3.frame hn hf,h4,h5,h6,h7,(hf o h9 CY).trans h8,h9,ae⟩
theorem nI.since {n0 n1:Nat} {g:Rows} {n:Nat} {r:AV} (h:nI n1 g n r) (k:n0<=n1):nI n0 g n r:=by
 obtain⟨E,vg,vt,kg,kt,o,p,m,h1,h2,h3,h4,h5,h6,h7,h8,h9,CY⟩:=h
 exact⟨E,vg,vt,kg,kt,o,p,m,h1,h2.since k,h3.since k,h4,h5,h6,h7,h8,ae,CY⟩
def Wj (s:au):Prop:=im s.aD/\s.aD.bh.length<=1048576/\s.aD.aj.length<=1048576/\s.bH.aj.length=1/\∀t∈s.aD.aj,t.dW.length=4
theorem nI.fz {n0:Nat} {g:Rows} {n:Nat} {r:AV} (h:nI n0 g n r):∃s:au,Wj s/\iu g 6 r=some (.agg (ck s)):=by
 obtain⟨E,vg,vt,kg,kt,o,p,m,h1,h2,h3,h4,h5,h6,h7,h8,h9,CY⟩:=h
 obtain⟨L,a1,a2,a3⟩:=h2.fz h4
 obtain⟨T,b1,b2,b3⟩:=h3.fz h5
 subst h1
 refine⟨⟨⟨L,T⟩,⟨[p]⟩,m⟩,⟨⟨fun x hx=>Nat.le_trans (a2 x hx) (by decide),fun x hx=>Nat.le_trans (b2 x hx).1 (by decide)⟩,aH,aH,rfl,fun x hx=>(b2 x hx).2⟩,?_⟩
 have Tb:iu g 5 (.own o 0 1)=some (.sl [ab p]):=eT (e:=ab) (l:=[p]) h8 rfl fun x=>by simp[ab,bx,cw,ej]
 rw[l5,bx,a3 3,bx,b3 2,bx,Tb,bx,ej,cw]
 rfl
end Go.Proofs.YtainmfbpilopaaaGreatDoor.V

namespace Go.Proofs.YtainmfbpilopaaaGreatDoor.V
open Go.RowKit
attribute [local irreducible] ea wpOps fB Call
def nP (s:Nat):Prop:=s=190015003∨s=190016007
theorem KB (bs:List Int) (hb:∀b∈bs,0<=b/\b<=255) (iz:bs.length<=4096) (X:Id) (m:Nat) (hm:m<=20) (A:Nat) (ha:A<=1000000) (σ:ax) (h:eL σ.get X bs A) (hX:X.bq<σ.next):
  Call Tryz.prog 190 [.ptr X 0 0,.int .i64 (m:Int)] σ fun r σ'=>∃vg vt kg,r=.agg [vg,vt]/\fN σ.next σ'.get σ'.next vg kg/\fZ nP σ.next σ'.get σ'.next vt m/\0<kg/\kg<=5/\eL σ'.get X bs (A+400)/\jD X σ σ':=by
 refine vD SL rfl fun fD=>?_
 simp only[Ph,Zu,zz5,zz6,zz7,zz8,zz9,Im,U5,U6,U7]
 try simp only[q]
 clear fD
 have vX:=bZ hX
 (try((repeat(revert N;apply Pn.out));refine wk @Nat.zero_add ?_;(repeat(apply Pn.mk;intro N hN))))
 refine .inr (ay _ _ _ _ _ (fun r σ1 hq=>?_) (gS bs hb iz X 5 A ae _ (by
  obtain⟨a,z,q1,q2⟩:=h
  exact⟨a,z,q1,by simp only[go_sem, ↓reduceIte,Nat.reduceEqDiff,Nat.reduceAdd,Nat.reduceSub,Nat.reduceLeDiff,reduceCtorEq,vX]<;>exact q2⟩)))
 obtain⟨v,rfl,v0,v1,h1,hK⟩:=hq
 obtain⟨g1,x1⟩:=σ1
 (try dsimp only at h1)
 apply hN
 clear hN N
 have GC:=hK.1
 (try dsimp only at GC)
 have YE:=hK.2 ⟨190000000,σ.next⟩ (fun e=>by rw[<-e]at hX;(try dsimp only at hX);omega) aH
 have hB5:=hK.2 ⟨190001001,σ.next+1⟩ (fun e=>by rw[<-e]at hX;(try dsimp only at hX);omega) aH
 have uj:∀i:Id,i≠X->i.bq<σ.next->g1 i=σ.get i:=fun i hi hv=>(hK.2 i hi aH).trans (by have hv:=bZ hv;simp only[go_sem, ↓reduceIte,Nat.reduceEqDiff,Nat.reduceAdd,Nat.reduceSub,Nat.reduceLeDiff,reduceCtorEq,hv])
 simp only[go_sem, ↓reduceIte,Nat.reduceEqDiff,Nat.reduceAdd,Nat.reduceSub,Nat.reduceLeDiff,reduceCtorEq]at YE hB5
 clear hK h
 obtain⟨kg,hkg⟩:∃kg:Nat,IntKind.i64.wrap (1+v)=(kg:Int):=⟨(1+v).toNat,by rw[db ae];omega⟩
 have O6:1<=kg/\kg<=5:=by
  rw[db ae]at hkg
  omega
 (try((repeat(revert N;apply Pn.out));refine wk @hkg ?_;(repeat(apply Pn.mk;intro N hN))))
 refine cm (fun n env st=>∃k:Nat,n=(kg)-k/\k<=(kg)/\env 7=.int .i64 (k:Int)/\((eL st.get X bs (A+2+2*k)/\st.get ⟨190000000,σ.next⟩=some ⟨true,2,[[.bj,.bj]]⟩/\σ.next+2<=st.next/\(∀i:Id,i≠X->i.bq<σ.next->st.get i=σ.get i)/\∃vg,st.get ⟨190001001,σ.next+1⟩=some ⟨true,2,[[vg,.bj]]⟩/\fN (σ.next+2) st.get st.next vg k))) (kg) ⟨0,ae,ae,sl @Nat.zero_add,by(try dsimp only);exact⟨h1,YE,ae,uj,.bj,hB5,.inl ⟨rfl,rfl⟩⟩⟩ ?_
 rintro n_a env_a st_a ⟨k,rfl,ale,a7,qN⟩ eF
 have a0:=eF 0 (by kernel_rfl);have a1:=eF 1 (by kernel_rfl);have a4:=eF 4 (by kernel_rfl);have a5:=eF 5 (by kernel_rfl);have a6:=eF 6 (by kernel_rfl)
 simp only[go_sem, ↓reduceIte,Nat.reduceEqDiff,Nat.reduceAdd,Nat.reduceSub,Nat.reduceLeDiff,reduceCtorEq]at a0 a1 a4 a5 a6
 clear eF
 obtain⟨aS,GR,aN,aO,vg,OQ,aG⟩:=qN
 by_cases hk:(k:Int)<(kg:Int)
 ·have eh:∀{e:Env} {gg:Rows} {nx:Nat},(e 7=.int .i64 (IntKind.i64.wrap ((k:Int)+1)))->((eL gg X bs (A+2+2*(k+1))/\gg ⟨190000000,σ.next⟩=some ⟨true,2,[[.bj,.bj]]⟩/\σ.next+2<=nx/\(∀i:Id,i≠X->i.bq<σ.next->gg i=σ.get i)/\∃vg,gg ⟨190001001,σ.next+1⟩=some ⟨true,2,[[vg,.bj]]⟩/\fN (σ.next+2) gg nx vg (k+1)))->∃m0,m0<(kg)-k/\∃k:Nat,m0=(kg)-k/\k<=(kg)/\e 7=.int .i64 (k:Int)/\((eL gg X bs (A+2+2*k)/\gg ⟨190000000,σ.next⟩=some ⟨true,2,[[.bj,.bj]]⟩/\σ.next+2<=nx/\(∀i:Id,i≠X->i.bq<σ.next->gg i=σ.get i)/\∃vg,gg ⟨190001001,σ.next+1⟩=some ⟨true,2,[[vg,.bj]]⟩/\fN (σ.next+2) gg nx vg k)):=fun x1 x2=>⟨_,ae,k+1,rfl,ae,(by rw[x1,bf ae]),x2⟩
  have qu:=ma (k:Int) ae ae
  have y3:=jm (k:Int) ae
  have jg:k<=16777215:=ae
  generalize iY (k:Int)=dt at qu y3
  (try((repeat(revert N;apply Pn.out));refine wk (tw @a7 (tw @a0 (tw @a1 (tw @a4 (tw @a5 (tw @a6 @hk)))))) ?_;(repeat(apply Pn.mk;intro N hN))))
  refine DN (fun e st=>∃x,st=x/\e 0=.ptr X 0 0/\e 1=.int .i64 (m:Int)/\e 4=.ptr ⟨190000000,σ.next⟩ 0 0/\e 5=.ptr ⟨190001001,σ.next+1⟩ 0 0/\e 6=.int .i64 (kg:Int)/\e 7=.int .i64 (k:Int)/\eL st.get X bs (A+2+2*(k+1))/\st.get ⟨190000000,σ.next⟩=some ⟨true,2,[[.bj,.bj]]⟩/\σ.next+2<=st.next/\(∀i:Id,i≠X->i.bq<σ.next->st.get i=σ.get i)/\∃vg,st.get ⟨190001001,σ.next+1⟩=some ⟨true,2,[[vg,.bj]]⟩/\fN (σ.next+2) st.get st.next vg (k+1)) ?_ ?_
  ·rintro e st ⟨x,rfl,c0,c1,c4,c5,c6,c7,cS,cB4,cN,cO,cG⟩
   apply hN
   clear hN N
   (try((repeat(revert N;apply Pn.out));refine wk (tw @a7 (tw @a0 (tw @a1 (tw @a4 (tw @a5 (tw @a6 @c7)))))) ?_;(repeat(apply Pn.mk;intro N hN))))
   exact eh (sd (tw @a7 (tw @a0 (tw @a1 (tw @a4 (tw @a5 (tw @a6 @c7))))))) (by(try dsimp only);exact⟨cS,cB4,ae,cO,(by
    obtain⟨vg,d1,d2⟩:=cG
    exact⟨vg,d1,d2.frame ae fun _ _ _=>rfl⟩)⟩)
  ·intro N hN
   have ew:(#[103]:Array UInt8).size+dt.size<=9223372036854775807:=by
    have:(#[103]:Array UInt8).size=1:=rfl
    omega
   have ly:((⟨#[103]⟩:ByteArray)++dt).size<=64:=by
    rw[gM]
    have:(⟨#[103]⟩:ByteArray).size=1:=rfl
    omega
   rcases aG with⟨k0,rfl⟩|⟨k0,o,L,rfl,hL,go,hs,j7,pB⟩
   ·refine fm ?_ ?_<;>(have zF:=tw @a7 (tw @a0 (tw @a1 (tw @a4 (tw @a5 (tw @a6 (tw @OQ @ew))))));(repeat(first|((repeat(revert N;apply Pn.out));refine wk zF ?_;(repeat(apply Pn.mk;intro N hN)))|((try apply Or.inl);refine⟨_,aw.x (qu) (sd zF),?_⟩;apply hN;clear hN N)));try clear zF)<;>(try refine fm ?_ ?_)<;>(try((repeat(revert N;apply Pn.out));refine wk (tw @a7 (tw @a0 (tw @a1 (tw @a4 (tw @a5 (tw @a6 (tw @OQ @ew))))))) ?_;(repeat(apply Pn.mk;intro N hN))))
    all_goals
     refine .inr (ay _ _ _ _ _ (fun r σ3 hq=>?_) (gS bs hb iz X 2 (A+2+2*k) ae _ aS))
     obtain⟨u,rfl,u0,u1,h3,k3⟩:=hq
     obtain⟨g3,x3⟩:=σ3
     (try dsimp only at h3)
     have n3:=k3.1
     (try dsimp only at n3)
     have Hh:=(k3.2 ⟨190000000,σ.next⟩ (fun e=>by rw[<-e]at hX;(try dsimp only at hX);omega) aH).trans GR
     have ME:=(k3.2 ⟨190001001,σ.next+1⟩ (fun e=>by rw[<-e]at hX;(try dsimp only at hX);omega) aH).trans OQ
     have IU:∀i:Id,i≠X->i.bq<σ.next->g3 i=σ.get i:=fun i hi hv=>(k3.2 i hi aH).trans (aO i hi hv)
     (try dsimp only at Hh ME)
     clear k3
     apply hN
     clear hN N
     (try((repeat(revert N;apply Pn.out));refine wk (tw @a7 (tw @a0 (tw @a1 (tw @a4 (tw @a5 (tw @a6 (tw @Hh @ME))))))) ?_;(repeat(apply Pn.mk;intro N hN))))
     obtain⟨za,zz,hz,gX⟩:=h3
     have Gk:=bZ (i:=X) (n:=x3) ae
     exact⟨_,rfl,sd (tw @a7 (tw @a0 (tw @a1 (tw @a4 (tw @a5 @a6))))),sd (tw @a7 (tw @a0 (tw @a1 (tw @a4 (tw @a5 @a6))))),sd (tw @a7 (tw @a0 (tw @a1 (tw @a4 (tw @a5 @a6))))),sd (tw @a7 (tw @a0 (tw @a1 (tw @a4 (tw @a5 @a6))))),sd (tw @a7 (tw @a0 (tw @a1 (tw @a4 (tw @a5 @a6))))),sd (tw @a7 (tw @a0 (tw @a1 (tw @a4 (tw @a5 @a6))))),⟨za,zz,ae,by simp only[go_sem, ↓reduceIte,Nat.reduceEqDiff,Nat.reduceAdd,Nat.reduceSub,Nat.reduceLeDiff,reduceCtorEq,Gk,vX]<;>exact gX⟩,sd @Hh,aH,fun i hi hv=>(by
      have h8:=bZ hv
      have h9:=bZ (i:=i) (n:=x3) ae
      simp only[go_sem, ↓reduceIte,Nat.reduceEqDiff,Nat.reduceAdd,Nat.reduceSub,Nat.reduceLeDiff,reduceCtorEq,h8,h9]<;>exact IU i hi hv),_,sl @Nat.zero_add,.inr ⟨ae,⟨190006010,x3⟩,[⟨(⟨#[103]⟩:ByteArray)++dt,IntKind.i64.wrap (1+u)⟩],by rw[k0],by rw[k0];rfl,sl @Nat.zero_add,fun x hx=>(by rw[List.mem_singleton.1 hx];exact ly),aH,aH⟩⟩
   ·have hoX:o≠X:=fun e=>by rw[e]at j7;omega
    have hX1:(o=X)=False/\(X=o)=False:=⟨eq_false hoX,eq_false fun e=>hoX e.symm⟩
    have e1:∀s,((o=⟨s,σ.next⟩)=False/\((⟨s,σ.next⟩:Id)=o)=False)/\(o=⟨s,σ.next+1⟩)=False/\((⟨s,σ.next+1⟩:Id)=o)=False:=fun s=>⟨⟨eq_false fun e=>by rw[e]at j7;(try dsimp only at j7);omega,eq_false fun e=>by rw[<-e]at j7;(try dsimp only at j7);omega⟩,eq_false fun e=>by rw[e]at j7;(try dsimp only at j7);omega,eq_false fun e=>by rw[<-e]at j7;(try dsimp only at j7);omega⟩
    have kD:(L.map dZ).length=k:=by rw[List.length_map,hL]
    refine fm ?_ ?_<;>(have zF:=tw @a7 (tw @a0 (tw @a1 (tw @a4 (tw @a5 (tw @a6 (tw @OQ @ew))))));(repeat(first|((repeat(revert N;apply Pn.out));refine wk zF ?_;(repeat(apply Pn.mk;intro N hN)))|((try apply Or.inl);refine⟨_,aw.x (qu) (sd zF),?_⟩;apply hN;clear hN N)));try clear zF)<;>(try refine fm ?_ ?_)<;>(try((repeat(revert N;apply Pn.out));refine wk (tw @a7 (tw @a0 (tw @a1 (tw @a4 (tw @a5 (tw @a6 (tw @OQ @ew))))))) ?_;(repeat(apply Pn.mk;intro N hN))))
    all_goals
     refine .inr (ay _ _ _ _ _ (fun r σ3 hq=>?_) (gS bs hb iz X 2 (A+2+2*k) ae _ aS))
     obtain⟨u,rfl,u0,u1,h3,k3⟩:=hq
     obtain⟨g3,x3⟩:=σ3
     (try dsimp only at h3)
     have n3:=k3.1
     (try dsimp only at n3)
     have Hh:=(k3.2 ⟨190000000,σ.next⟩ (fun e=>by rw[<-e]at hX;(try dsimp only at hX);omega) aH).trans GR
     have ME:=(k3.2 ⟨190001001,σ.next+1⟩ (fun e=>by rw[<-e]at hX;(try dsimp only at hX);omega) aH).trans OQ
     have IU:∀i:Id,i≠X->i.bq<σ.next->g3 i=σ.get i:=fun i hi hv=>(k3.2 i hi aH).trans (aO i hi hv)
     (try dsimp only at Hh ME)
     have g3o:=(k3.2 o hoX aH).trans go
     (try dsimp only at g3o)
     clear k3
     apply hN
     clear hN N
     have UI:=bZ (i:=o) (n:=x3) ae
     (try((repeat(revert N;apply Pn.out));refine wk (tw @a7 (tw @a0 (tw @a1 (tw @a4 (tw @a5 (tw @a6 (tw @Hh (tw @ME (tw @g3o (tw @e1 (tw @UI (tw @jg @kD)))))))))))) ?_;(repeat(apply Pn.mk;intro N hN))))
     obtain⟨za,zz,hz,gX⟩:=h3
     have Gk:=bZ (i:=X) (n:=x3) ae
     exact⟨_,rfl,sd (tw @a7 (tw @a0 (tw @a1 (tw @a4 (tw @a5 @a6))))),sd (tw @a7 (tw @a0 (tw @a1 (tw @a4 (tw @a5 @a6))))),sd (tw @a7 (tw @a0 (tw @a1 (tw @a4 (tw @a5 @a6))))),sd (tw @a7 (tw @a0 (tw @a1 (tw @a4 (tw @a5 @a6))))),sd (tw @a7 (tw @a0 (tw @a1 (tw @a4 (tw @a5 @a6))))),sd (tw @a7 (tw @a0 (tw @a1 (tw @a4 (tw @a5 @a6))))),⟨za,zz,ae,by simp only[go_sem, ↓reduceIte,Nat.reduceEqDiff,Nat.reduceAdd,Nat.reduceSub,Nat.reduceLeDiff,reduceCtorEq,Gk,vX,hX1]<;>exact gX⟩,sd (tw @Hh @e1),aH,fun i hi hv=>(by
      have h8:=bZ hv
      have h9:=bZ (i:=i) (n:=x3) ae
      have h7:(i=o)=False:=eq_false fun e=>by rw[e]at hv;omega
      simp only[go_sem, ↓reduceIte,Nat.reduceEqDiff,Nat.reduceAdd,Nat.reduceSub,Nat.reduceLeDiff,reduceCtorEq,h8,h9,h7]<;>exact IU i hi hv),_,sl @Nat.zero_add,.inr ⟨ae,⟨190006010,x3⟩,L++[⟨(⟨#[103]⟩:ByteArray)++dt,IntKind.i64.wrap (1+u)⟩],rfl,by simp[hL],by rw[List.map_append];simp only[go_sem, ↓reduceIte,Nat.reduceEqDiff,Nat.reduceAdd,Nat.reduceSub,Nat.reduceLeDiff,reduceCtorEq]<;>rfl,fun x hx=>(by
       rcases List.mem_append.1 hx with h9|h9
       ·exact hs x h9
       ·rw[List.mem_singleton.1 h9];exact ly),aH,aH⟩⟩
 ·have hke:k=kg:=ae
  subst hke
  (try((repeat(revert N;apply Pn.out));refine wk (tw @a7 (tw @a0 (tw @a1 (tw @a4 (tw @a5 (tw @a6 @hk)))))) ?_;(repeat(apply Pn.mk;intro N hN))))
  obtain⟨ga,na⟩:=st_a
  (try dsimp only at aS GR aN aO OQ aG)
  refine cm (fun n env st=>∃j:Nat,n=(m)-j/\j<=(m)/\env 8=.int .i64 (j:Int)/\((eL st.get X bs (A+20+16*j)/\na<=st.next/\(∀i:Id,i≠X->i≠⟨190001001,σ.next+1⟩->i.bq<na->st.get i=ga i)/\∃vt,st.get ⟨190001001,σ.next+1⟩=some ⟨true,2,[[vg,vt]]⟩/\fZ nP na st.get st.next vt j))) (m) ⟨0,ae,ae,sl (tw @a7 (tw @a0 (tw @a1 (tw @a4 (tw @a5 @a6))))),by(try dsimp only);exact⟨aS.mono ae,ae,fun i _ _ _=>rfl,.bj,OQ,.inl ⟨rfl,rfl⟩⟩⟩ ?_
  rintro n_b env_b st_b ⟨j,rfl,ble,b8,bI0⟩ eS
  have b0:=eS 0 (by kernel_rfl);have b1:=eS 1 (by kernel_rfl);have b4:=eS 4 (by kernel_rfl);have b5:=eS 5 (by kernel_rfl);have b6:=eS 6 (by kernel_rfl)
  simp only[go_sem, ↓reduceIte,Nat.reduceEqDiff,Nat.reduceAdd,Nat.reduceSub,Nat.reduceLeDiff,reduceCtorEq,a7,a0,a1,a4,a5,a6]at b0 b1 b4 b5 b6
  clear eS
  obtain⟨bS,bN,bO,vt,ZP,bT⟩:=bI0
  by_cases hj:(j:Int)<(m:Int)
  ·have fb:∀{e:Env} {gg:Rows} {nx:Nat},(e 8=.int .i64 (IntKind.i64.wrap ((j:Int)+1)))->((eL gg X bs (A+20+16*(j+1))/\na<=nx/\(∀i:Id,i≠X->i≠⟨190001001,σ.next+1⟩->i.bq<na->gg i=ga i)/\∃vt,gg ⟨190001001,σ.next+1⟩=some ⟨true,2,[[vg,vt]]⟩/\fZ nP na gg nx vt (j+1)))->∃m0,m0<(m)-j/\∃j:Nat,m0=(m)-j/\j<=(m)/\e 8=.int .i64 (j:Int)/\((eL gg X bs (A+20+16*j)/\na<=nx/\(∀i:Id,i≠X->i≠⟨190001001,σ.next+1⟩->i.bq<na->gg i=ga i)/\∃vt,gg ⟨190001001,σ.next+1⟩=some ⟨true,2,[[vg,vt]]⟩/\fZ nP na gg nx vt j)):=fun x1 x2=>⟨_,ae,j+1,rfl,ae,(by rw[x1,bf ae]),x2⟩
   have qu:=ma (j:Int) ae ae
   have y3:=jm (j:Int) ae
   have pQ:j<=16777215:=ae
   generalize iY (j:Int)=dt at qu y3
   have ew:(#[116]:Array UInt8).size+dt.size<=9223372036854775807:=by
    have:(#[116]:Array UInt8).size=1:=rfl
    omega
   have ly:((⟨#[116]⟩:ByteArray)++dt).size<=64:=by
    rw[gM]
    have:(⟨#[116]⟩:ByteArray).size=1:=rfl
    omega
   (have zF:=tw @b8 (tw @b0 (tw @b1 (tw @b4 (tw @b5 (tw @b6 (tw @hj @ew))))));(repeat(first|((repeat(revert N;apply Pn.out));refine wk zF ?_;(repeat(apply Pn.mk;intro N hN)))|((try apply Or.inl);refine⟨_,aw.x (qu) (sd zF),?_⟩;apply hN;clear hN N)));try clear zF)
   obtain⟨gb,nb⟩:=st_b
   (try dsimp only at bS bN bO ZP bT)
   have Q4:=bZ (i:=X) (n:=nb) ae
   refine cm (fun n env st=>∃i:Nat,n=(4)-i/\i<=(4)/\env 10=.int .i64 (i:Int)/\((eL st.get X bs (A+20+16*j+4*i)/\nb+2<=st.next/\(∀u:Id,u≠X->u.bq<nb+1->st.get u=gb u)/\∃ve,st.get ⟨190010004,nb+1⟩=some ⟨true,2,[[.str ((⟨#[116]⟩:ByteArray)++dt),ve]]⟩/\Cj nP (nb+1) st.get st.next ve i))) (4) ⟨0,ae,ae,sl (tw @b8 (tw @b0 (tw @b1 (tw @b4 (tw @b5 @b6))))),by(try dsimp only);exact⟨(by
    obtain⟨za,zz,hz,gX⟩:=bS
    exact⟨za,zz,ae,by simp only[go_sem, ↓reduceIte,Nat.reduceEqDiff,Nat.reduceAdd,Nat.reduceSub,Nat.reduceLeDiff,reduceCtorEq,Q4]<;>exact gX⟩),ae,fun u h1 h2=>(by have hu:=bZ h2;simp only[go_sem, ↓reduceIte,Nat.reduceEqDiff,Nat.reduceAdd,Nat.reduceSub,Nat.reduceLeDiff,reduceCtorEq,hu]),.bj,sl @Nat.zero_add,.inl ⟨rfl,rfl⟩⟩⟩ ?_
   rintro n_c env_c st_c ⟨i,rfl,cle,kN,cI0⟩ kE
   have c0:=kE 0 (by kernel_rfl);have c1:=kE 1 (by kernel_rfl);have c4:=kE 4 (by kernel_rfl);have c5:=kE 5 (by kernel_rfl);have c6:=kE 6 (by kernel_rfl);have c8:=kE 8 (by kernel_rfl);have c9:=kE 9 (by kernel_rfl)
   simp only[go_sem, ↓reduceIte,Nat.reduceEqDiff,Nat.reduceAdd,Nat.reduceSub,Nat.reduceLeDiff,reduceCtorEq,b8,b0,b1,b4,b5,b6]at c0 c1 c4 c5 c6 c8 c9
   clear kE
   obtain⟨cS,cN,cO,ve,Yv,cE⟩:=cI0
   by_cases hi:(i:Int)<4
   ·have jv:∀{e:Env} {gg:Rows} {nx:Nat},(e 10=.int .i64 (IntKind.i64.wrap ((i:Int)+1)))->((eL gg X bs (A+20+16*j+4*(i+1))/\nb+2<=nx/\(∀u:Id,u≠X->u.bq<nb+1->gg u=gb u)/\∃ve,gg ⟨190010004,nb+1⟩=some ⟨true,2,[[.str ((⟨#[116]⟩:ByteArray)++dt),ve]]⟩/\Cj nP (nb+1) gg nx ve (i+1)))->∃m0,m0<(4)-i/\∃i:Nat,m0=(4)-i/\i<=(4)/\e 10=.int .i64 (i:Int)/\((eL gg X bs (A+20+16*j+4*i)/\nb+2<=nx/\(∀u:Id,u≠X->u.bq<nb+1->gg u=gb u)/\∃ve,gg ⟨190010004,nb+1⟩=some ⟨true,2,[[.str ((⟨#[116]⟩:ByteArray)++dt),ve]]⟩/\Cj nP (nb+1) gg nx ve i)):=fun x1 x2=>⟨_,ae,i+1,rfl,ae,(by rw[x1,bf ae]),x2⟩
    (try((repeat(revert N;apply Pn.out));refine wk (tw @kN (tw @c0 (tw @c1 (tw @c4 (tw @c5 (tw @c6 (tw @c8 (tw @c9 @hi)))))))) ?_;(repeat(apply Pn.mk;intro N hN))))
    refine .inr (ay _ _ _ _ _ (fun r σ3 hq=>?_) (BU bs hb iz X 3 _ ae _ cS))
    obtain⟨b,rfl,h3,k3⟩:=hq
    obtain⟨g3,x3⟩:=σ3
    (try dsimp only at h3)
    have n3:=k3.1
    (try dsimp only at n3)
    have Hi:=(k3.2 ⟨190010004,nb+1⟩ (fun e=>by rw[<-e]at hX;(try dsimp only at hX);omega) aH).trans Yv
    have IU:∀u:Id,u≠X->u.bq<nb+1->g3 u=gb u:=fun u h1 h2=>(k3.2 u h1 aH).trans (cO u h1 h2)
    have g3E:Cj nP (nb+1) g3 x3 ve i:=by
     rcases cE with h|⟨i0,e,rfl,q1,q2,q3,l,q4,q5⟩
     ·exact .inl h
     ·exact .inr ⟨i0,e,rfl,q1,q2,ae,l,q4,(k3.2 e (fun h=>by rw[h]at q2;omega) aH).trans q5⟩
    (try dsimp only at Hi)
    clear k3
    apply hN
    clear hN N
    cases b
    ·rcases g3E with⟨i0,rfl⟩|⟨i0,e,rfl,q1,q2,q3,l,q4,q5⟩
     ·(try((repeat(revert N;apply Pn.out));refine wk (tw @kN (tw @c0 (tw @c1 (tw @c4 (tw @c5 (tw @c6 (tw @c8 @c9))))))) ?_;(repeat(apply Pn.mk;intro N hN))))
      refine fm ?_ ?_<;>(try((repeat(revert N;apply Pn.out));refine wk (tw @kN (tw @c0 (tw @c1 (tw @c4 (tw @c5 (tw @c6 (tw @c8 (tw @c9 @Hi)))))))) ?_;(repeat(apply Pn.mk;intro N hN))))
      all_goals
       refine .inr (ay _ _ _ _ _ (fun r σ4 hq=>?_) (gS bs hb iz X (k:Int) _ ae _ h3))
       obtain⟨z,rfl,z0,z1,h4,k4⟩:=hq
       obtain⟨g4,x4⟩:=σ4
       (try dsimp only at h4)
       have n4:=k4.1
       (try dsimp only at n4)
       have MF:=(k4.2 ⟨190010004,nb+1⟩ (fun e=>by rw[<-e]at hX;(try dsimp only at hX);omega) aH).trans Hi
       have Hj:∀u:Id,u≠X->u.bq<nb+1->g4 u=gb u:=fun u h1 h2=>(k4.2 u h1 aH).trans (IU u h1 h2)
       (try dsimp only at MF)
       clear k4
       apply hN
       clear hN N
       (try((repeat(revert N;apply Pn.out));refine wk (tw @kN (tw @c0 (tw @c1 (tw @c4 (tw @c5 (tw @c6 (tw @c8 (tw @c9 @MF)))))))) ?_;(repeat(apply Pn.mk;intro N hN))))
       obtain⟨za,zz,hz,gX⟩:=h4
       have Gk:=bZ (i:=X) (n:=x4) ae
       have Q4:=bZ (i:=X) (n:=nb) ae
       exact jv (sd (tw @kN (tw @c0 (tw @c1 (tw @c4 (tw @c5 (tw @c6 (tw @c8 @c9)))))))) (by(try dsimp only);exact⟨⟨za,zz,ae,by simp only[go_sem, ↓reduceIte,Nat.reduceEqDiff,Nat.reduceAdd,Nat.reduceSub,Nat.reduceLeDiff,reduceCtorEq,Gk,Q4]<;>exact gX⟩,ae,fun u h1 h2=>(by
        have h8:=bZ (i:=u) (n:=x4) ae
        have h9:∀s,(u=⟨s,nb+1⟩)=False:=fun s=>eq_false fun e=>by rw[e]at h2;(try dsimp only at h2);omega
        simp only[go_sem, ↓reduceIte,Nat.reduceEqDiff,Nat.reduceAdd,Nat.reduceSub,Nat.reduceLeDiff,reduceCtorEq,h8,h9]<;>exact Hj u h1 h2),.own ⟨190016007,x4⟩ 0 1,sl @Nat.zero_add,.inr ⟨ae,_,by rw[i0],.inr rfl,aH,aH,[IntKind.i64.wrap (1+z)],by rw[i0];rfl,sl @Nat.zero_add⟩⟩)
     ·have Tz:i<=16777215:=ae
      have q7:(l.map aM).length=i:=by simp[q4]
      have nB9:(e=⟨190010004,nb+1⟩)=False/\((⟨190010004,nb+1⟩:Id)=e)=False:=by
       have:e≠⟨190010004,nb+1⟩:=fun h=>by rw[h]at q1;simp[nP]at q1
       exact⟨eq_false this,eq_false fun h=>this h.symm⟩
      (try((repeat(revert N;apply Pn.out));refine wk (tw @kN (tw @c0 (tw @c1 (tw @c4 (tw @c5 (tw @c6 (tw @c8 @c9))))))) ?_;(repeat(apply Pn.mk;intro N hN))))
      refine fm ?_ ?_<;>(try((repeat(revert N;apply Pn.out));refine wk (tw @kN (tw @c0 (tw @c1 (tw @c4 (tw @c5 (tw @c6 (tw @c8 (tw @c9 @Hi)))))))) ?_;(repeat(apply Pn.mk;intro N hN))))
      all_goals
       refine .inr (ay _ _ _ _ _ (fun r σ4 hq=>?_) (gS bs hb iz X (k:Int) _ ae _ h3))
       obtain⟨z,rfl,z0,z1,h4,k4⟩:=hq
       obtain⟨g4,x4⟩:=σ4
       (try dsimp only at h4)
       have n4:=k4.1
       (try dsimp only at n4)
       have MF:=(k4.2 ⟨190010004,nb+1⟩ (fun e=>by rw[<-e]at hX;(try dsimp only at hX);omega) aH).trans Hi
       have Hj:∀u:Id,u≠X->u.bq<nb+1->g4 u=gb u:=fun u h1 h2=>(k4.2 u h1 aH).trans (IU u h1 h2)
       (try dsimp only at MF)
       have q8:=(k4.2 e (fun h=>by rw[h]at q2;omega) aH).trans q5
       (try dsimp only at q8)
       clear k4
       apply hN
       clear hN N
       have ve4:=bZ (i:=e) (n:=x4) ae
       (try((repeat(revert N;apply Pn.out));refine wk (tw @kN (tw @c0 (tw @c1 (tw @c4 (tw @c5 (tw @c6 (tw @c8 (tw @c9 (tw @MF (tw @q8 (tw @q7 (tw @Tz (tw @ve4 @nB9))))))))))))) ?_;(repeat(apply Pn.mk;intro N hN))))
       obtain⟨za,zz,hz,gX⟩:=h4
       have Gk:=bZ (i:=X) (n:=x4) ae
       have Q4:=bZ (i:=X) (n:=nb) ae
       have hXe:(X=e)=False/\(e=X)=False:=⟨eq_false fun h=>by rw[<-h]at q2;omega,eq_false fun h=>by rw[h]at q2;omega⟩
       exact jv (sd (tw @kN (tw @c0 (tw @c1 (tw @c4 (tw @c5 (tw @c6 (tw @c8 @c9)))))))) (by(try dsimp only);exact⟨⟨za,zz,ae,by simp only[go_sem, ↓reduceIte,Nat.reduceEqDiff,Nat.reduceAdd,Nat.reduceSub,Nat.reduceLeDiff,reduceCtorEq,Gk,Q4,hXe]<;>exact gX⟩,ae,fun u h1 h2=>(by
        have h8:=bZ (i:=u) (n:=x4) ae
        have h9:∀s,(u=⟨s,nb+1⟩)=False:=fun s=>eq_false fun e=>by rw[e]at h2;(try dsimp only at h2);omega
        have h7:(u=e)=False:=eq_false fun h=>by rw[h]at h2;omega
        simp only[go_sem, ↓reduceIte,Nat.reduceEqDiff,Nat.reduceAdd,Nat.reduceSub,Nat.reduceLeDiff,reduceCtorEq,h8,h9,h7]<;>exact Hj u h1 h2),.own ⟨190016007,x4⟩ 0 (i+1),sl @Nat.zero_add,.inr ⟨ae,_,rfl,.inr rfl,aH,aH,l++[IntKind.i64.wrap (1+z)],by simp[q4],by rw[List.map_append];simp only[go_sem, ↓reduceIte,Nat.reduceEqDiff,Nat.reduceAdd,Nat.reduceSub,Nat.reduceLeDiff,reduceCtorEq]<;>rfl⟩⟩)
    ·rcases g3E with⟨i0,rfl⟩|⟨i0,e,rfl,q1,q2,q3,l,q4,q5⟩
     ·(try((repeat(revert N;apply Pn.out));refine wk (tw @kN (tw @c0 (tw @c1 (tw @c4 (tw @c5 (tw @c6 (tw @c8 (tw @c9 @Hi)))))))) ?_;(repeat(apply Pn.mk;intro N hN))))
      obtain⟨za,zz,hz,gX⟩:=h3
      have Gk:=bZ (i:=X) (n:=x3) ae
      have Q4:=bZ (i:=X) (n:=nb) ae
      exact jv (sd (tw @kN (tw @c0 (tw @c1 (tw @c4 (tw @c5 (tw @c6 (tw @c8 @c9)))))))) (by(try dsimp only);exact⟨⟨za,zz,ae,by simp only[go_sem, ↓reduceIte,Nat.reduceEqDiff,Nat.reduceAdd,Nat.reduceSub,Nat.reduceLeDiff,reduceCtorEq,Gk,Q4]<;>exact gX⟩,ae,fun u h1 h2=>(by
       have h8:=bZ (i:=u) (n:=x3) ae
       have h9:∀s,(u=⟨s,nb+1⟩)=False:=fun s=>eq_false fun e=>by rw[e]at h2;(try dsimp only at h2);omega
       simp only[go_sem, ↓reduceIte,Nat.reduceEqDiff,Nat.reduceAdd,Nat.reduceSub,Nat.reduceLeDiff,reduceCtorEq,h8,h9]<;>exact IU u h1 h2),.own ⟨190015003,x3+1⟩ 0 1,sl @Nat.zero_add,.inr ⟨ae,_,by rw[i0],.inl rfl,aH,aH,[0],by rw[i0];rfl,sl @Nat.zero_add⟩⟩)
     ·have Tz:i<=16777215:=ae
      have q7:(l.map aM).length=i:=by simp[q4]
      have ve3:=bZ q3
      have nB9:(e=⟨190010004,nb+1⟩)=False/\((⟨190010004,nb+1⟩:Id)=e)=False:=by
       have:e≠⟨190010004,nb+1⟩:=fun h=>by rw[h]at q1;simp[nP]at q1
       exact⟨eq_false this,eq_false fun h=>this h.symm⟩
      (try((repeat(revert N;apply Pn.out));refine wk (tw @kN (tw @c0 (tw @c1 (tw @c4 (tw @c5 (tw @c6 (tw @c8 (tw @c9 (tw @Hi (tw @q5 (tw @q7 (tw @Tz (tw @ve3 @nB9))))))))))))) ?_;(repeat(apply Pn.mk;intro N hN))))
      obtain⟨za,zz,hz,gX⟩:=h3
      have Gk:=bZ (i:=X) (n:=x3) ae
      have Q4:=bZ (i:=X) (n:=nb) ae
      have hXe:(X=e)=False/\(e=X)=False:=⟨eq_false fun h=>by rw[<-h]at q2;omega,eq_false fun h=>by rw[h]at q2;omega⟩
      exact jv (sd (tw @kN (tw @c0 (tw @c1 (tw @c4 (tw @c5 (tw @c6 (tw @c8 @c9)))))))) (by(try dsimp only);exact⟨⟨za,zz,ae,by simp only[go_sem, ↓reduceIte,Nat.reduceEqDiff,Nat.reduceAdd,Nat.reduceSub,Nat.reduceLeDiff,reduceCtorEq,Gk,Q4,hXe]<;>exact gX⟩,ae,fun u h1 h2=>(by
       have h8:=bZ (i:=u) (n:=x3) ae
       have h9:∀s,(u=⟨s,nb+1⟩)=False:=fun s=>eq_false fun e=>by rw[e]at h2;(try dsimp only at h2);omega
       have h7:(u=e)=False:=eq_false fun h=>by rw[h]at h2;omega
       simp only[go_sem, ↓reduceIte,Nat.reduceEqDiff,Nat.reduceAdd,Nat.reduceSub,Nat.reduceLeDiff,reduceCtorEq,h8,h9,h7]<;>exact IU u h1 h2),.own ⟨190015003,x3+1⟩ 0 (i+1),sl @Nat.zero_add,.inr ⟨ae,_,rfl,.inl rfl,aH,aH,l++[0],by simp[q4],by rw[List.map_append];simp only[go_sem, ↓reduceIte,Nat.reduceEqDiff,Nat.reduceAdd,Nat.reduceSub,Nat.reduceLeDiff,reduceCtorEq]<;>rfl⟩⟩)
   ·have YW:i=4:=ae
    subst YW
    obtain⟨gc,nc⟩:=st_c
    (try dsimp only at cS cN cO Yv cE)
    rcases cE with⟨h,_⟩|⟨_,e,rfl,ce⟩
    ·omega
    have cB5:=(cO ⟨190001001,σ.next+1⟩ (fun e=>by rw[<-e]at hX;(try dsimp only at hX);omega) aH).trans ZP
    rcases bT with⟨j0,rfl⟩|⟨j0,o,rows,rfl,hr,go,hT,hs,j7,pB⟩
    ·(try((repeat(revert N;apply Pn.out));refine wk (tw @b8 (tw @b0 (tw @b1 (tw @b4 (tw @b5 (tw @b6 (tw @kN (tw @c0 (tw @c1 (tw @c4 (tw @c5 (tw @c6 (tw @c8 (tw @c9 (tw @hi (tw @cB5 @Yv)))))))))))))))) ?_;(repeat(apply Pn.mk;intro N hN))))
     obtain⟨za,zz,hz,gX⟩:=cS
     have Si:=bZ (i:=X) (n:=nc) ae
     obtain⟨d1,d2,d3,l,d4,d5⟩:=ce
     have ve:=bZ (i:=e) (n:=nc) d3
     have n5:∀s,(e=⟨s,σ.next+1⟩)=False:=fun s=>eq_false fun h=>by rw[h]at d2;(try dsimp only at d2);omega
     exact fb (sd (tw @b8 (tw @b0 (tw @b1 (tw @b4 (tw @b5 (tw @b6 (tw @kN (tw @c0 (tw @c1 (tw @c4 (tw @c5 (tw @c6 (tw @c8 @c9)))))))))))))) (by(try dsimp only);exact⟨⟨za,zz,ae,by simp only[go_sem, ↓reduceIte,Nat.reduceEqDiff,Nat.reduceAdd,Nat.reduceSub,Nat.reduceLeDiff,reduceCtorEq,Si,vX]<;>exact gX⟩,ae,fun u h1 h2 h3=>(by
      have h8:=bZ (i:=u) (n:=nc) ae
      have h9:=eq_false h2
      simp only[go_sem, ↓reduceIte,Nat.reduceEqDiff,Nat.reduceAdd,Nat.reduceSub,Nat.reduceLeDiff,reduceCtorEq,h8,h9]<;>exact(cO u h1 ae).trans (bO u h1 h2 h3)),.own ⟨190017004,nc+1⟩ 0 1,sl @Nat.zero_add,.inr ⟨ae,⟨190017004,nc+1⟩,[[.str ((⟨#[116]⟩:ByteArray)++dt),.own e 0 4]],by rw[j0],by rw[j0];rfl,sl @Nat.zero_add,fun row fE=>⟨_,e,List.mem_singleton.1 fE,⟨ly,tC _ _⟩,d1,ae,ae,l,d4,by simp only[go_sem, ↓reduceIte,Nat.reduceEqDiff,Nat.reduceAdd,Nat.reduceSub,Nat.reduceLeDiff,reduceCtorEq,ve,n5]<;>exact d5⟩,by simp[nP],aH,aH⟩⟩)
    ·have Z2:=(cO o (fun h=>by rw[h]at j7;omega) ae).trans go
     have vo:=bZ (i:=o) (n:=nc) ae
     have o5:∀s,(o=⟨s,σ.next+1⟩)=False/\((⟨s,σ.next+1⟩:Id)=o)=False:=fun s=>⟨eq_false fun e=>by rw[e]at j7;(try dsimp only at j7);omega,eq_false fun e=>by rw[<-e]at j7;(try dsimp only at j7);omega⟩
     (try((repeat(revert N;apply Pn.out));refine wk (tw @b8 (tw @b0 (tw @b1 (tw @b4 (tw @b5 (tw @b6 (tw @kN (tw @c0 (tw @c1 (tw @c4 (tw @c5 (tw @c6 (tw @c8 (tw @c9 (tw @hi (tw @cB5 (tw @Yv (tw @Z2 (tw @vo (tw @o5 (tw @hr @pQ))))))))))))))))))))) ?_;(repeat(apply Pn.mk;intro N hN))))
     obtain⟨za,zz,hz,gX⟩:=cS
     have Si:=bZ (i:=X) (n:=nc) ae
     obtain⟨d1,d2,d3,l,d4,d5⟩:=ce
     have ve:=bZ (i:=e) (n:=nc) d3
     have n5:∀s,(e=⟨s,σ.next+1⟩)=False:=fun s=>eq_false fun h=>by rw[h]at d2;(try dsimp only at d2);omega
     have ne:(e=o)=False:=eq_false fun h=>hs (by rw[<-h];exact d1)
     have nX:(X=o)=False:=eq_false fun h=>by rw[<-h]at j7;omega
     have hT2:=hT.frame (g':=gc) (n':=nc) ae fun u h1 h2 h3=>cO u (fun h=>by rw[h]at h2;omega) ae
     exact fb (sd (tw @b8 (tw @b0 (tw @b1 (tw @b4 (tw @b5 (tw @b6 (tw @kN (tw @c0 (tw @c1 (tw @c4 (tw @c5 (tw @c6 (tw @c8 @c9)))))))))))))) (by(try dsimp only);exact⟨⟨za,zz,ae,by simp only[go_sem, ↓reduceIte,Nat.reduceEqDiff,Nat.reduceAdd,Nat.reduceSub,Nat.reduceLeDiff,reduceCtorEq,Si,vX,nX]<;>exact gX⟩,ae,fun u h1 h2 h3=>(by
      have h8:=bZ (i:=u) (n:=nc) ae
      have h9:=eq_false h2
      have h7:(u=o)=False:=eq_false fun h=>by rw[h]at h3;omega
      simp only[go_sem, ↓reduceIte,Nat.reduceEqDiff,Nat.reduceAdd,Nat.reduceSub,Nat.reduceLeDiff,reduceCtorEq,h8,h9,h7]<;>exact(cO u h1 ae).trans (bO u h1 h2 h3)),.own ⟨190017004,nc+1⟩ 0 (j+1),sl @Nat.zero_add,.inr ⟨ae,⟨190017004,nc+1⟩,rows++[[.str ((⟨#[116]⟩:ByteArray)++dt),.own e 0 4]],rfl,by simp[hr],sl @Nat.zero_add,(hT2.frame (n':=nc+1+1+1) ae fun u h1 h2 h3=>(by
       have h8:=bZ h3
       have h9:∀s,(u=⟨s,σ.next+1⟩)=False:=fun s=>eq_false fun h=>by rw[h]at h2;(try dsimp only at h2);omega
       have h7:(u=o)=False:=eq_false fun h=>hs (by rw[<-h];exact h1)
       simp only[go_sem, ↓reduceIte,Nat.reduceEqDiff,Nat.reduceAdd,Nat.reduceSub,Nat.reduceLeDiff,reduceCtorEq,h8,h9,h7])).snoc ⟨ly,tC _ _⟩ ⟨d1,ae,ae,l,d4,by simp only[go_sem, ↓reduceIte,Nat.reduceEqDiff,Nat.reduceAdd,Nat.reduceSub,Nat.reduceLeDiff,reduceCtorEq,ve,n5,ne]<;>exact d5⟩,by simp[nP],aH,aH⟩⟩)
  ·have hjm:j=m:=ae
   subst hjm
   have bB4:=(bO ⟨190000000,σ.next⟩ (fun e=>by rw[<-e]at hX;(try dsimp only at hX);omega) (fun e=>by injection e with e1 _;revert e1;decide) aH).trans GR
   have bG:=aG.frame (g':=st_b.get) (n':=st_b.next) bN fun u h1 h2=>bO u (fun e=>by rw[e]at h1;omega) (fun e=>by rw[e]at h1;(try dsimp only at h1);omega) h2
   obtain⟨c1,c2⟩:=bG.cell
   obtain⟨c3,c4⟩:=bT.cell
   unfold AV.cells at c1 c3
   unfold AV.cell at c2 c4
   (try((repeat(revert N;apply Pn.out));refine wk (tw @b8 (tw @b0 (tw @b1 (tw @b4 (tw @b5 (tw @b6 (tw @hj (tw @bB4 (tw @ZP (tw @c1 (tw @c2 (tw @c3 @c4)))))))))))) ?_;(repeat(apply Pn.mk;intro N hN))))
   obtain⟨za,zz,hz,gX⟩:=bS
   exact eo (.inl rfl) (vs:=[.agg [vg,vt]]) (sd (tw @b8 (tw @b0 (tw @b1 (tw @b4 (tw @b5 (tw @b6 (tw @c1 (tw @c2 (tw @c3 @c4)))))))))) ⟨vg,vt,_,rfl,(bG.frame aH fun u h1 h2=>(by
    have h8:∀s,(u=⟨s,σ.next⟩)=False:=fun s=>eq_false fun e=>by rw[e]at h1;(try dsimp only at h1);omega
    simp only[go_sem, ↓reduceIte,Nat.reduceEqDiff,Nat.reduceAdd,Nat.reduceSub,Nat.reduceLeDiff,reduceCtorEq,h8])).since ae,(bT.frame aH fun u h1 h2=>(by
    have h8:∀s,(u=⟨s,σ.next⟩)=False:=fun s=>eq_false fun e=>by rw[e]at h1;(try dsimp only at h1);omega
    simp only[go_sem, ↓reduceIte,Nat.reduceEqDiff,Nat.reduceAdd,Nat.reduceSub,Nat.reduceLeDiff,reduceCtorEq,h8])).since ae,O6.1,O6.2,⟨za,zz,ae,by simp only[go_sem, ↓reduceIte,Nat.reduceEqDiff,Nat.reduceAdd,Nat.reduceSub,Nat.reduceLeDiff,reduceCtorEq,vX]<;>exact gX⟩,aH,fun u h1 h2=>(by
    have h8:=bZ h2
    simp only[go_sem, ↓reduceIte,Nat.reduceEqDiff,Nat.reduceAdd,Nat.reduceSub,Nat.reduceLeDiff,reduceCtorEq,h8]<;>exact(bO u h1 (fun e=>by rw[e]at h2;(try dsimp only at h2);omega) ae).trans (aO u h1 h2))⟩
def ye (X:Id) (bs:List Int) (A:Nat) (σ:ax) (r:AV) (σ':ax):Prop:=nI σ.next σ'.get σ'.next r/\eL σ'.get X bs (A+1000)/\jD X σ σ'
theorem KI (bs:List Int) (hb:∀b∈bs,0<=b/\b<=255) (iz:bs.length<=4096) (X:Id) (A:Nat) (ha:A<=900000) (σ:ax) (h:eL σ.get X bs A) (hX:X.bq<σ.next):
  Call Tryz.prog 132 [.ptr X 0 0] σ (ye X bs A σ):=by
 refine vD SJ rfl fun fD=>?_
 simp only[Lt,U8,U9,Rc,Re,OG,Rf,Va,Vb,Vc]
 try simp only[q]
 clear fD
 have vX:=bZ hX
 (try((repeat(revert N;apply Pn.out));refine wk @Nat.zero_add ?_;(repeat(apply Pn.mk;intro N hN))))
 refine .inr (ay _ _ _ _ _ (fun r σ1 hq=>?_) (gS bs hb iz X 4 A ae _ (by
  obtain⟨a,z,q1,q2⟩:=h
  exact⟨a,z,q1,by simp only[go_sem, ↓reduceIte,Nat.reduceEqDiff,Nat.reduceAdd,Nat.reduceSub,Nat.reduceLeDiff,reduceCtorEq,vX]<;>exact q2⟩)))
 obtain⟨v,rfl,v0,v1,h1,hK⟩:=hq
 obtain⟨g1,x1⟩:=σ1
 (try dsimp only at h1)
 have GC:=hK.1
 (try dsimp only at GC)
 have lx:=hK.2 ⟨132000000,σ.next⟩ (fun e=>by rw[<-e]at hX;(try dsimp only at hX);omega) aH
 have uj:∀i:Id,i≠X->i.bq<σ.next->g1 i=σ.get i:=fun i hi hv=>(hK.2 i hi aH).trans (by have hv:=bZ hv;simp only[go_sem, ↓reduceIte,Nat.reduceEqDiff,Nat.reduceAdd,Nat.reduceSub,Nat.reduceLeDiff,reduceCtorEq,hv])
 simp only[go_sem, ↓reduceIte,Nat.reduceEqDiff,Nat.reduceAdd,Nat.reduceSub,Nat.reduceLeDiff,reduceCtorEq]at lx
 clear hK h
 obtain⟨m,hm⟩:∃m:Nat,IntKind.i64.wrap (2+v)=(m:Int):=⟨(2+v).toNat,by rw[db ae];omega⟩
 have hmb:2<=m/\m<=5:=by
  rw[db ae]at hm
  omega
 apply hN
 clear hN N
 (try((repeat(revert N;apply Pn.out));refine wk @hm ?_;(repeat(apply Pn.mk;intro N hN))))
 refine .inr (ay _ _ _ _ _ (fun r σ2 hq=>?_) (KB bs hb iz X m ae (A+2) ae _ h1 aH))
 obtain⟨vg,vt,kg,rfl,hG,hT,xS,hk5,h2,hK⟩:=hq
 obtain⟨g2,x2⟩:=σ2
 (try dsimp only at h2 hG hT)
 have pU:=hK.1
 (try dsimp only at pU)
 have mo:=(hK.2 ⟨132000000,σ.next⟩ (fun e=>by rw[<-e]at hX;(try dsimp only at hX);omega) aH).trans lx
 have J8:∀i:Id,i≠X->i.bq<σ.next->g2 i=σ.get i:=fun i hi hv=>(hK.2 i hi aH).trans (uj i hi hv)
 (try dsimp only at mo)
 clear hK h1
 obtain⟨c1,c2⟩:=hG.cell
 obtain⟨c3,c4⟩:=hT.cell
 have XF:dF vt=some m:=by
  rcases hT with⟨h,_⟩|⟨_,o,rows,rfl,_⟩
  ·omega
  ·rfl
 unfold AV.cells at c1 c3
 unfold AV.cell at c2 c4
 unfold dF at XF
 apply hN
 clear hN N
 (try((repeat(revert N;apply Pn.out));refine wk (tw @c1 (tw @c2 (tw @c3 (tw @c4 @XF)))) ?_;(repeat(apply Pn.mk;intro N hN))))
 have Q2:=bZ (i:=X) (n:=x2) ae
 refine nH (fun e st=>∃(o:Id) (p:aa) (z:Int),st.get ⟨132000000,σ.next⟩=some ⟨true,4,[[vg,vt,.own o 0 1,.int .i64 z]]⟩/\e 2=.ptr ⟨132000000,σ.next⟩ 0 0/\st.get o=some ⟨true,3,[ab p]⟩/\x2<=o.bq/\o.bq<st.next/\eL st.get X bs (A+1000)/\(∀u:Id,u≠X->u.bq<x2->u≠⟨132000000,σ.next⟩->st.get u=g2 u)/\x2<=st.next) ?_ ?_
 ·rintro e st ⟨o,p,z,d1,d2,d3,d4,d5,d6,d7,d8⟩
  apply hN
  clear hN N
  (try((repeat(revert N;apply Pn.out));refine wk (tw @d1 @d2) ?_;(repeat(apply Pn.mk;intro N hN))))
  have q1:=hG.frame (g':=st.get) (n':=st.next) d8 fun u h1 h2=>d7 u (fun e=>by rw[e]at h1;omega) h2 (fun e=>by rw[e]at h1;(try dsimp only at h1);omega)
  have q2:=hT.frame (g':=st.get) (n':=st.next) d8 fun u h1 h2=>d7 u (fun e=>by rw[e]at h1;omega) h2 (fun e=>by rw[e]at h1;(try dsimp only at h1);omega)
  exact eo (.inl rfl) (vs:=[.agg [vg,vt,.own o 0 1,.int .i64 z]]) (sd (tw @d1 @d2)) ⟨⟨nP,vg,vt,kg,m,o,p,z,rfl,q1.since aH,q2.since aH,xS,ae,ae,ae,d3,ae,ae⟩,d6,ae,fun u h1 h2=>(d7 u h1 ae (fun e=>by rw[e]at h2;(try dsimp only at h2);omega)).trans (J8 u h1 h2)⟩
 ·intro N hN
  have DQ:∀i x,eL (bI (bI g2 ⟨132001005,x2⟩ i) ⟨132001005,x2⟩ x) X bs (A+2+400):=fun i x=>by
   obtain⟨za,zz,hz,gX⟩:=h2
   exact⟨za,zz,hz,by simp only[go_sem, ↓reduceIte,Nat.reduceEqDiff,Nat.reduceAdd,Nat.reduceSub,Nat.reduceLeDiff,reduceCtorEq,Q2]<;>exact gX⟩
  refine fm ?_ ?_<;>(try((repeat(revert N;apply Pn.out));refine wk (tw @c1 (tw @c2 (tw @c3 @c4))) ?_;(repeat(apply Pn.mk;intro N hN))))
  all_goals
   refine .inr (ay _ _ _ _ _ (fun r σ3 hq=>?_) (gS bs hb iz X (m:Int) (A+2+400) ae _ (DQ _ _)))
   obtain⟨u,rfl,u0,u1,h3,hK⟩:=hq
   obtain⟨g3,x3⟩:=σ3
   (try dsimp only at h3)
   have Kt:=hK.1
   (try dsimp only at Kt)
   have Ka:=hK.2 ⟨132001005,x2⟩ (fun e=>by rw[<-e]at hX;(try dsimp only at hX);omega) aH
   have J9:=hK.2 ⟨132000000,σ.next⟩ (fun e=>by rw[<-e]at hX;(try dsimp only at hX);omega) aH
   simp only[go_sem, ↓reduceIte,Nat.reduceEqDiff,Nat.reduceAdd,Nat.reduceSub,Nat.reduceLeDiff,reduceCtorEq,mo]at Ka J9
   have IU:∀i:Id,i≠X->i.bq<x2->g3 i=g2 i:=fun i hi hv=>(hK.2 i hi aH).trans (by have h8:=bZ hv;simp only[go_sem, ↓reduceIte,Nat.reduceEqDiff,Nat.reduceAdd,Nat.reduceSub,Nat.reduceLeDiff,reduceCtorEq,h8])
   clear hK
   apply hN
   clear hN N
   (try((repeat(revert N;apply Pn.out));refine wk (tw @c1 (tw @c2 (tw @c3 (tw @c4 (tw @Ka @J9))))) ?_;(repeat(apply Pn.mk;intro N hN))))
   refine fm ?_ ?_<;>(try((repeat(revert N;apply Pn.out));refine wk (tw @c1 (tw @c2 (tw @c3 (tw @c4 (tw @Ka @J9))))) ?_;(repeat(apply Pn.mk;intro N hN))))<;>(try refine fm ?_ ?_)<;>(try((repeat(revert N;apply Pn.out));refine wk (tw @c1 (tw @c2 (tw @c3 (tw @c4 (tw @Ka @J9))))) ?_;(repeat(apply Pn.mk;intro N hN))))<;>(try refine fm ?_ ?_)<;>(try((repeat(revert N;apply Pn.out));refine wk (tw @c1 (tw @c2 (tw @c3 (tw @c4 (tw @Ka @J9))))) ?_;(repeat(apply Pn.mk;intro N hN))))
  all_goals
   have Gk:=bZ (i:=X) (n:=x3) ae
   refine .inr (ay _ _ _ _ _ (fun r σ4 hq=>?_) (gS bs hb iz X 2 (A+404) ae _ (by
    obtain⟨za,zz,hz,gX⟩:=h3
    exact⟨za,zz,hz,by first|exact gX|(simp only[go_sem, ↓reduceIte,Nat.reduceEqDiff,Nat.reduceAdd,Nat.reduceSub,Nat.reduceLeDiff,reduceCtorEq,Gk];exact gX)⟩)))
   obtain⟨w,rfl,w0,w1,h4,hK⟩:=hq
   obtain⟨g4,x4⟩:=σ4
   (try dsimp only at h4)
   have Qb:=hK.1
   (try dsimp only at Qb)
   have WC:=hK.2 ⟨132001005,x2⟩ (fun e=>by rw[<-e]at hX;(try dsimp only at hX);omega) aH
   have WB:=hK.2 ⟨132000000,σ.next⟩ (fun e=>by rw[<-e]at hX;(try dsimp only at hX);omega) aH
   have PM:=hK.2 ⟨132002007,x3⟩ (fun e=>by rw[<-e]at hX;(try dsimp only at hX);omega) aH
   simp only[go_sem, ↓reduceIte,Nat.reduceEqDiff,Nat.reduceAdd,Nat.reduceSub,Nat.reduceLeDiff,reduceCtorEq,Ka,J9]at WC WB PM
   have Hj:∀i:Id,i≠X->i.bq<x2->g4 i=g2 i:=fun i hi hv=>(hK.2 i hi aH).trans (by
    have h8:=bZ (i:=i) (n:=x3) ae
    have h9:=IU i hi hv
    simp only[go_sem, ↓reduceIte,Nat.reduceEqDiff,Nat.reduceAdd,Nat.reduceSub,Nat.reduceLeDiff,reduceCtorEq,h8,h9])
   clear hK
   apply hN
   clear hN N
   (try((repeat(revert N;apply Pn.out));refine wk (tw @c1 (tw @c2 (tw @c3 (tw @c4 (tw @WC (tw @WB @PM)))))) ?_;(repeat(apply Pn.mk;intro N hN))))
   obtain⟨za,zz,hz,gX⟩:=h4
   have Q3:=bZ (i:=X) (n:=x4) ae
  ·exact⟨⟨132002007,x3⟩,⟨⟨0,0⟩,u⟩,IntKind.i64.wrap (2+w),sl @Nat.zero_add,sd @Nat.zero_add,sl @PM,aH,aH,⟨za,zz,ae,by simp only[go_sem, ↓reduceIte,Nat.reduceEqDiff,Nat.reduceAdd,Nat.reduceSub,Nat.reduceLeDiff,reduceCtorEq,Q3,vX]<;>exact gX⟩,fun y h1 h2 h3=>(by
   have h8:=bZ (i:=y) (n:=x4) ae
   have h9:=eq_false h3
   simp only[go_sem, ↓reduceIte,Nat.reduceEqDiff,Nat.reduceAdd,Nat.reduceSub,Nat.reduceLeDiff,reduceCtorEq,h8,h9]<;>exact Hj y h1 h2),aH⟩
  ·exact⟨⟨132002007,x4⟩,⟨⟨0,0⟩,u⟩,IntKind.i64.wrap (2+w),sl @Nat.zero_add,sd @Nat.zero_add,sl @PM,aH,aH,⟨za,zz,ae,by simp only[go_sem, ↓reduceIte,Nat.reduceEqDiff,Nat.reduceAdd,Nat.reduceSub,Nat.reduceLeDiff,reduceCtorEq,Q3,vX]<;>exact gX⟩,fun y h1 h2 h3=>(by
   have h8:=bZ (i:=y) (n:=x4) ae
   have h9:=eq_false h3
   simp only[go_sem, ↓reduceIte,Nat.reduceEqDiff,Nat.reduceAdd,Nat.reduceSub,Nat.reduceLeDiff,reduceCtorEq,h8,h9]<;>exact Hj y h1 h2),aH⟩
  ·exact⟨⟨132002007,x3⟩,⟨⟨0,0⟩,u⟩,IntKind.i64.wrap (2+w),sl @Nat.zero_add,sd @Nat.zero_add,sl @PM,aH,aH,⟨za,zz,ae,by simp only[go_sem, ↓reduceIte,Nat.reduceEqDiff,Nat.reduceAdd,Nat.reduceSub,Nat.reduceLeDiff,reduceCtorEq,Q3,vX]<;>exact gX⟩,fun y h1 h2 h3=>(by
   have h8:=bZ (i:=y) (n:=x4) ae
   have h9:=eq_false h3
   simp only[go_sem, ↓reduceIte,Nat.reduceEqDiff,Nat.reduceAdd,Nat.reduceSub,Nat.reduceLeDiff,reduceCtorEq,h8,h9]<;>exact Hj y h1 h2),aH⟩
  ·exact⟨⟨132002007,x4⟩,⟨⟨0,0⟩,u⟩,IntKind.i64.wrap (2+w),sl @Nat.zero_add,sd @Nat.zero_add,sl @PM,aH,aH,⟨za,zz,ae,by simp only[go_sem, ↓reduceIte,Nat.reduceEqDiff,Nat.reduceAdd,Nat.reduceSub,Nat.reduceLeDiff,reduceCtorEq,Q3,vX]<;>exact gX⟩,fun y h1 h2 h3=>(by
   have h8:=bZ (i:=y) (n:=x4) ae
   have h9:=eq_false h3
   simp only[go_sem, ↓reduceIte,Nat.reduceEqDiff,Nat.reduceAdd,Nat.reduceSub,Nat.reduceLeDiff,reduceCtorEq,h8,h9]<;>exact Hj y h1 h2),aH⟩
  ·exact⟨⟨132002007,x3⟩,⟨⟨0,0⟩,u⟩,IntKind.i64.wrap (2+w),sl @Nat.zero_add,sd @Nat.zero_add,sl @PM,aH,aH,⟨za,zz,ae,by simp only[go_sem, ↓reduceIte,Nat.reduceEqDiff,Nat.reduceAdd,Nat.reduceSub,Nat.reduceLeDiff,reduceCtorEq,Q3,vX]<;>exact gX⟩,fun y h1 h2 h3=>(by
   have h8:=bZ (i:=y) (n:=x4) ae
   have h9:=eq_false h3
   simp only[go_sem, ↓reduceIte,Nat.reduceEqDiff,Nat.reduceAdd,Nat.reduceSub,Nat.reduceLeDiff,reduceCtorEq,h8,h9]<;>exact Hj y h1 h2),aH⟩
  ·exact⟨⟨132002007,x3⟩,⟨⟨0,0⟩,u⟩,IntKind.i64.wrap (2+w),sl @Nat.zero_add,sd @Nat.zero_add,sl @PM,aH,aH,⟨za,zz,ae,by simp only[go_sem, ↓reduceIte,Nat.reduceEqDiff,Nat.reduceAdd,Nat.reduceSub,Nat.reduceLeDiff,reduceCtorEq,Q3,vX]<;>exact gX⟩,fun y h1 h2 h3=>(by
   have h8:=bZ (i:=y) (n:=x4) ae
   have h9:=eq_false h3
   simp only[go_sem, ↓reduceIte,Nat.reduceEqDiff,Nat.reduceAdd,Nat.reduceSub,Nat.reduceLeDiff,reduceCtorEq,h8,h9]<;>exact Hj y h1 h2),aH⟩
  ·exact⟨⟨132002007,x4⟩,⟨⟨0,0⟩,u⟩,IntKind.i64.wrap (2+w),sl @Nat.zero_add,sd @Nat.zero_add,sl @PM,aH,aH,⟨za,zz,ae,by simp only[go_sem, ↓reduceIte,Nat.reduceEqDiff,Nat.reduceAdd,Nat.reduceSub,Nat.reduceLeDiff,reduceCtorEq,Q3,vX]<;>exact gX⟩,fun y h1 h2 h3=>(by
   have h8:=bZ (i:=y) (n:=x4) ae
   have h9:=eq_false h3
   simp only[go_sem, ↓reduceIte,Nat.reduceEqDiff,Nat.reduceAdd,Nat.reduceSub,Nat.reduceLeDiff,reduceCtorEq,h8,h9]<;>exact Hj y h1 h2),aH⟩
end Go.Proofs.YtainmfbpilopaaaGreatDoor.V
