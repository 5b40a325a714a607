/- The options of a crystal, listed in order. -/
import Derived.Test.YtgoljkjaameagaaGreatSyB
import Derived.Test.YtgoljkjaameagaaGreatSyD
import Derived.Test.YtgoljkjaameagaaGreatSyE
import Derived.Test.YtgoljkjaameagaaGreatChecked
import Derived.WalkKit
import Derived.BigRegion
import Derived.Lib.MinMax
import Derived.ProofKit
import Derived.Deep.Slices
import Derived.ChangeSame
import Derived.Test.YtgoljkjaameagaaGreatRows
import Derived.OpenShut
import Derived.ShutString
import Derived.ChangeOld
import Derived.Below
set_option linter.unusedVariables false
set_option linter.unusedSimpArgs false
set_option maxRecDepth 100000
set_option maxHeartbeats 16000000
namespace Go.Proofs.YtgoljkjaameagaaGreat.V
open Go.RowKit
attribute [local irreducible] ej wpOps fQ Call
attribute [local go_sem] aH fq eD fH fG cV upd bZ K.av cC AV.cells AV.cell rowOf rowsOf part ld rowAt bK bR du dQ gE bB cR eb fF eL dh dV cP cN dD dE bF aT cG bE cI cH dS dW dU cF bJ cQ dR bD aJ cK cm gD bd cz bG aP dn aX dv AV.undef bj bx dG dO dz dF cu ea ei ck dY dX cJ cL List.getD_cons_zero List.getD_cons_succ List.getD_nil List.all_cons List.all_nil Bool.and_true Bool.true_and Bool.and_self Bool.not_true Bool.not_false Option.map_some Option.map_none Option.bind_some Option.bind_none List.length_cons List.length_nil List.take_succ_cons List.take_zero List.take_nil List.drop_succ_cons List.drop_zero List.drop_nil List.head?_cons List.map_cons List.map_nil List.getElem?_cons_zero List.getElem?_cons_succ List.cons_append List.nil_append List.append_nil List.length_map List.set_cons_zero List.set_cons_succ Nat.reduceMul eq_self Int.toNat_natCast Int.natCast_nonneg and_self true_and and_true decide_true decide_false Bool.false_eq_true Nat.zero_add Nat.add_zero List.contains_cons List.contains_nil Bool.or_false Bool.false_or beq_self_eq_true Nat.reduceBEq ne_eq not_true_eq_false not_false_eq_true Id.mk.injEq false_and and_false Nat.reduceLT Int.reduceLE Int.reduceLT Int.reduceToNat Int.reduceNeg Int.reduceAdd Nat.le_refl List.length_append beq_true beq_false Bool.not_eq_eq_eq_not or_false false_or eo aj ar aK aV bp bW aQ aZ aN aU cD bI
theorem nJ {α:Type} [DecidableEq α]:∀{xs ys:List α},xs.Nodup->(∀x∈xs,x∈ys)->xs.length=ys.length->xs.Perm ys
 |[],ys,_,_,h=>by
  have:ys=[]:=List.eq_nil_of_length_eq_zero h.symm
  subst this;exact List.Perm.nil
 |x::xs,ys,hn,hs,h=>by
  obtain⟨h1,h2⟩:=List.nodup_cons.1 hn
  have hx:=hs x (by simp)
  have hl:=List.length_erase_of_mem hx
  have:=@nJ α _ xs (ys.erase x) h2 (fun y hy=>(List.mem_erase_of_ne fun e=>h1 (by rw[<-e];exact hy)).2 (hs y (by simp[hy]))) (by rw[hl];simp only[List.length_cons]at h;omega)
  exact(this.cons x).trans (List.perm_cons_erase hx).symm
theorem l8 {L:List ah} (h:lO L):L.Nodup:=List.Pairwise.imp (fun {a b} mV e=>by rw[e,lX]at mV;cases mV) h
theorem KB {L qs:List ah} (hR:lO L) (hp:qs.Perm L) (hs:∀i j:Nat,i<j->j<qs.length->j5 (jh qs j) (jh qs i)=false):qs=L:=by
 have hd:qs.Nodup:=hp.nodup_iff.2 (l8 hR)
 have hq:lO qs:=by
  unfold lO
  unfold List.Nodup at hd
  rw[List.pairwise_iff_getElem]at hd ⊢
  intro i j hi hj Cg
  have h1:=hs i j Cg hj
  rw[jt hj,jt hi]at h1
  exact ye h1 fun e=>hd i j hi hj Cg e.symm
 exact Ed hq hR fun x=>hp.mem_iff
theorem FQ (σ:ax):Call Tryz.prog 231 [.cq,.fn 154 []] σ fun r σ'=>r=.im []/\σ'.next=σ.next/\σ'.get=σ.get:=by
 refine fR fun hs D ι w vs S U A=>?_
 obtain⟨u1,us1,rfl,h1,h2⟩:=iL A
 obtain⟨u2,us2,h3,h4,h5⟩:=iL h2
 simp at h3;subst h3
 have:=qq h5
 simp at this;subst this
 obtain rfl:=iu h1
 refine(Lp _ _ _ w).mono ?_
 rintro e w' ⟨rfl,rfl⟩
 exact⟨.im [],σ.get,σ.next,D,ι,_,rfl,⟨rfl,rfl,rfl⟩,Step.refl _ _ _ _,S,U,Nat.le_refl _,.im [] #[] (fun _=>Go.undef) rfl (fun j hj=>by simp at hj) (fun j a h=>by simp at h)⟩
theorem HI (O:Id) (σ:ax):Call Tryz.prog 153 [.map O mP] σ (fun r σ'=>r=.fn 232 [.ptr ⟨153000000,σ.next⟩ 0 0]/\σ'.get ⟨153000000,σ.next⟩=some ⟨true,1,[[.map O mP]]⟩/\σ.next<σ'.next/\∀x:Id,x.bt<σ.next->σ'.get x=σ.get x):=by
 refine iq eE rfl fun hl=>?_
 clear hl
 (try((repeat(revert hN;revert N;apply Pn.out));refine wk @Nat.zero_add ?_;(repeat(refine Pn.mk ?_;intro N hN))))
 exact gQ (.inl rfl) (vs:=[.fn 232 [.ptr ⟨153000000,σ.next⟩ 0 0]]) (sd @Nat.zero_add) ⟨rfl,sd @Nat.zero_add,by(try dsimp only);omega,fun x hx=>by
  have:=ef hx
  simp only[go_sem, ↓reduceIte,Nat.reduceEqDiff,Nat.reduceAdd,Nat.reduceSub,Nat.reduceLeDiff,reduceCtorEq,this]⟩
theorem EG {σ:ax} {X O:Id} {b1 b2:Bool} {es:List En} (hX:σ.get X=some ⟨b1,1,[[.map O mP]]⟩) (hO:σ.get O=some ⟨b2,mP.lp,es.map nU⟩) (hl:es.length<=1000000) (hXv:X.bt<σ.next) (QF:O.bt<σ.next):
  Call Tryz.prog 230 [.fn 232 [.ptr X 0 0]] σ (fun r σ'=>σ.next<=σ'.next/\(∀x:Id,x.bt<σ.next->σ'.get x=σ.get x)/\∃ss:List ah,ss.Perm (es.map (·.1))/\((ss=[]/\r=.cq)∨∃o:Id,r=.own o 0 ss.length/\σ'.get o=some ⟨true,2,ss.map ab⟩/\σ.next<=o.bt/\o.bt<σ'.next/\ss≠[])):=by
 refine iq eE rfl fun kM=>?_
 clear kM
 (try((repeat(revert hN;revert N;apply Pn.out));refine wk @Nat.zero_add ?_;(repeat(refine Pn.mk ?_;intro N hN))))
 refine .inr (bL _ _ _ _ _ (fun r σ1 hq=>?_) (zf (σ:=⟨σ.get,_⟩) hX hO hl))
 obtain⟨g1,x1⟩:=σ1
 obtain⟨q1,q2,ss,q3,q4⟩:=hq
 (try dsimp only at q1 q2 q4)
 refine hN _ _ ?_
 clear hN N
 (try((repeat(revert hN;revert N;apply Pn.out));refine wk @Nat.zero_add ?_;(repeat(refine Pn.mk ?_;intro N hN))))
 exact gQ (.inl rfl) (vs:=[r]) (sd @Nat.zero_add) ⟨by(try dsimp only);omega,fun x hx=>q2 x (by omega),ss,q3,by
  rcases q4 with h|⟨o,h1,h2,h3,h4,h5⟩
  ·exact .inl h
  ·exact .inr ⟨o,h1,h2,by omega,by(try dsimp only);omega,h5⟩⟩
theorem Ip {σ:ax} {X O:Id} {b1 b2:Bool} {es:List En} (hX:σ.get X=some ⟨b1,1,[[.map O mP]]⟩) (hO:σ.get O=some ⟨b2,mP.lp,es.map nU⟩) (hl:es.length<=1000000) (hXv:X.bt<σ.next) (QF:O.bt<σ.next) (L:List ah) (hR:lO L) (hn:(es.map (·.1)).Nodup) (hm:∀x,x∈L↔x∈es.map (·.1)):
  Call Tryz.prog 152 [.fn 232 [.ptr X 0 0],.fn 154 []] σ (fun r σ'=>σ.next<=σ'.next/\(∀x:Id,x.bt<σ.next->σ'.get x=σ.get x)/\((L=[]/\r=.cq)∨∃o:Id,r=.own o 0 L.length/\σ'.get o=some ⟨true,2,L.map ab⟩/\σ.next<=o.bt/\o.bt<σ'.next/\L≠[])):=by
 refine iq eE rfl fun kM=>?_
 clear kM
 (try((repeat(revert hN;revert N;apply Pn.out));refine wk @Nat.zero_add ?_;(repeat(refine Pn.mk ?_;intro N hN))))
 refine .inr (bL _ _ _ _ _ (fun r σ1 hq=>?_) (EG (σ:=⟨σ.get,_⟩) hX hO hl (by(try dsimp only);omega) (by(try dsimp only);omega)))
 obtain⟨g1,x1⟩:=σ1
 obtain⟨q1,q2,ss,q3,q4⟩:=hq
 (try dsimp only at q1 q2 q4)
 have nB:ss.Nodup:=q3.nodup_iff.2 hn
 have oD:∀x,x∈L↔x∈ss:=fun x=>(hm x).trans q3.mem_iff.symm
 refine hN _ _ ?_
 clear hN N
 rcases q4 with⟨hs,rfl⟩|⟨o,rfl,q5,q6,q7,q8⟩
 ·have hL:L=[]:=List.eq_nil_iff_forall_not_mem.2 fun x hx=>by have:=(oD x).1 hx;rw[hs]at this;cases this
  (try((repeat(revert hN;revert N;apply Pn.out));refine wk @Nat.zero_add ?_;(repeat(refine Pn.mk ?_;intro N hN))))
  refine .inr (bL _ _ _ _ _ (fun r σ2 hq=>?_) (FQ ⟨g1,_⟩))
  obtain⟨g2,x2⟩:=σ2
  obtain⟨rfl,u1,u2⟩:=hq
  (try dsimp only at u1 u2)
  refine hN _ _ ?_
  clear hN N
  (try((repeat(revert hN;revert N;apply Pn.out));refine wk @Nat.zero_add ?_;(repeat(refine Pn.mk ?_;intro N hN))))
  exact gQ (.inl rfl) (vs:=[.cq]) (sd @Nat.zero_add) ⟨by(try dsimp only);omega,fun x hx=>(congrFun u2 x).trans (q2 x (by omega)),.inl ⟨hL,rfl⟩⟩
 ·have u9:ss.length<=1048576:=by rw[q3.length_eq,List.length_map];omega
  (try((repeat(revert hN;revert N;apply Pn.out));refine wk @Nat.zero_add ?_;(repeat(refine Pn.mk ?_;intro N hN))))
  refine .inr (bL _ _ _ _ _ (fun r σ2 hq=>?_) (FR P8 Lp ss u9 ⟨g1,_⟩ o q5))
  obtain⟨g2,x2⟩:=σ2
  obtain⟨u1,u2,qs,u3,u4,u5,u6⟩:=hq
  (try dsimp only at u1 u2 u3)
  have Q2:qs=L:=KB hR ((nJ (l8 hR) (fun x hx=>(u5 x).2 ((oD x).1 hx)) (by
   rw[u4]
   exact(nJ (l8 hR) (fun x hx=>(oD x).1 hx) (Nat.le_antisymm (nY (l8 hR) fun x hx=>(oD x).1 hx) (nY nB fun x hx=>(oD x).2 hx))).length_eq)).symm) u6
  rw[Q2]at u3 u4
  have OS:L≠[]:=fun e=>by rw[e]at u4;exact q8 (List.eq_nil_of_length_eq_zero u4.symm)
  refine hN _ _ ?_
  clear hN N
  (try((repeat(revert hN;revert N;apply Pn.out));refine wk @Nat.zero_add ?_;(repeat(refine Pn.mk ?_;intro N hN))))
  exact gQ (.inl rfl) (vs:=[.own o 0 ss.length]) (sd @Nat.zero_add) ⟨by(try dsimp only);omega,fun x hx=>by
   have h1:x≠o:=fun e=>by rw[e]at hx;omega
   exact(u2 x h1).trans (q2 x (by omega)),.inr ⟨o,by rw[u4];rfl,u3,by omega,by(try dsimp only);omega,OS⟩⟩
def Gc (z m:Nat) (L:List ad) (v:AV) (g:Rows) (n:Nat):Prop:=(L=[]/\v=.cq)∨∃u:Id,v=.own u 0 L.length/\g u=some ⟨true,3,L.map ai⟩/\m<=u.bt/\u.bt<n/\0<L.length/\u.site=z
theorem Gc.frame {z m:Nat} {L:List ad} {v v':AV} {g g':Rows} {n n':Nat} (h:Gc z m L v g n) (he:v'=v) (hn:n<=n') (hf:∀x:Id,x.bt<n->g' x=g x):Gc z m L v' g' n':=by
 subst he
 rcases h with h|⟨u,h1,h2,h3,h4,h5⟩
 ·exact .inl h
 ·exact .inr ⟨u,h1,(hf u h4).trans h2,h3,by omega,h5⟩
def jb (p:ah) (ks:List Int) (j:Nat):List ad:=(ks.take j).map fun k=>⟨p,k⟩
theorem w9 {p:ah} {ks:List Int} {j:Nat} (h:j<ks.length):jb p ks (j+1)=jb p ks j++[⟨p,ks.getD j 0⟩]:=by
 unfold jb
 rw[List.take_succ_eq_append_getElem h,List.map_append]
 simp[List.getD_eq_getElem?_getD,h]
theorem AD (p:ah) (ks:List Int):jb p ks ks.length=ks.map fun k=>(⟨p,k⟩:ad):=by unfold jb;rw[List.take_length]
theorem DX {ks:List Int} {j:Nat} (h:j<ks.length):(ks.map aA)[j]? =some [.int .i64 (ks.getD j 0)]:=by simp[aA,List.getD_eq_getElem?_getD,h]
structure Rn (g:Rows) (n:Nat) (c T O:Id) (s:aG) (l:List ad):Prop where
 row:g c=some ⟨true,6,[[.sl (s.az.aC.map cw),.sl (s.az.ae.map bh),.sl (s.cr.ae.map ai),.int .i64 s.aw,.map T mP,.map O mP]]⟩
 cv:c.bt<n
 ov:O.bt<n
 op:∃es:List En,g O=some ⟨true,mP.lp,es.map nU⟩/\vg g n es (ij s l) (fun _=>True)
theorem M1 {σ:ax} {c T O:Id} {s:aG} {l:List ad} (h:Rn σ.get σ.next c T O s l) (hT:1<=s.aw) (hS:gJ s.az) (hA:jM s.az l):
  Call Tryz.prog 84 [.ptr c 0 0] σ (fun r σ'=>σ.next<=σ'.next/\(∀x:Id,x.bt<σ.next->σ'.get x=σ.get x)/\Gc 84008005 σ.next (qK (eu s l) s.az.ae.length (iJ l)) r σ'.get σ'.next):=by
 refine iq eE rfl fun kM=>?_
 clear kM
 obtain⟨es,hO,hE⟩:=h.op
 have eX:=h.row
 have v1:=ef h.cv
 have v2:=ef h.ov
 have Gn:=hS.uS
 have E6:=hA.1.A6
 have Mv:∀q,q∈k9 s l↔q∈es.map (·.1):=fun q=>by
  rw[ue hT hA]
  rcases hE.at_ q trivial with⟨h1,h2⟩|⟨h1,o,h2,_⟩
  ·refine⟨fun h=>absurd h1 h,fun h=>?_⟩
   obtain⟨e,he,rfl⟩:=List.mem_map.1 h
   exact absurd rfl (h2 e he)
  ·exact⟨fun _=>List.mem_map_of_mem (f:=(·.1)) h2,fun _=>h1⟩
 have Q1:(k9 s l).length<=10000:=by
  have h1:(k9 s l).length<=(iJ l).length:=List.length_filter_le _ _
  have h2:(iJ l).length<=l.length*4:=ko l l.length
  omega
 have hes:es.length<=1000000:=by
  have h1:=nY hE.nodup fun x hx=>(Mv x).2 hx
  rw[List.length_map]at h1
  omega
 rw[BA]
 have hR:=BS s l
 have rj:∀q∈k9 s l,ij s l q≠[]:=fun q hq=>(ue hT hA q).1 hq
 generalize k9 s l=ps at Mv Q1 hR rj
 (try((repeat(revert hN;revert N;apply Pn.out));refine wk (tw @eX @v1) ?_;(repeat(refine Pn.mk ?_;intro N hN))))
 refine .inr (bL _ _ _ _ _ (fun r σ1 hq=>?_) (HI O _))
 obtain⟨g1,x1⟩:=σ1
 obtain⟨rfl,q1,q2,q3⟩:=hq
 (try dsimp only at q1 q2 q3)
 have hO1:g1 O=some ⟨true,mP.lp,es.map nU⟩:=(q3 O (by have:=h.ov;(try dsimp only);omega)).trans hO
 refine hN _ _ ?_
 clear hN N
 (try((repeat(revert hN;revert N;apply Pn.out));refine wk @Nat.zero_add ?_;(repeat(refine Pn.mk ?_;intro N hN))))
 refine .inr (bL _ _ _ _ _ (fun r σ2 hq=>?_) (Ip (σ:=⟨g1,_⟩) q1 hO1 hes (by(try dsimp only);omega) (by have:=h.ov;(try dsimp only);omega) ps hR hE.nodup Mv))
 obtain⟨g2,x2⟩:=σ2
 obtain⟨u1,u2,u3⟩:=hq
 (try dsimp only at u1 u2 u3)
 have E5:∀x:Id,x.bt<σ.next->g2 x=σ.get x:=fun x hx=>(u2 x (by omega)).trans (q3 x (by(try dsimp only);omega))
 refine hN _ _ ?_
 clear hN N
 rcases u3 with⟨hps,rfl⟩|⟨o,rfl,ho,sY,MC,hpne⟩
 ·(try((repeat(revert hN;revert N;apply Pn.out));refine wk @Nat.zero_add ?_;(repeat(refine Pn.mk ?_;intro N hN))))
  refine aM (fun n env st=>(env 15=.int .i64 0/\env 14=.int .i64 0/\env 3=.cq)/\σ.next<=st.next/\∀x:Id,x.bt<σ.next->st.get x=σ.get x) 0 ⟨⟨sd @Nat.zero_add,sl @Nat.zero_add,sd @Nat.zero_add⟩,by(try dsimp only);omega,fun x hx=>E5 x hx⟩ ?_
  rintro m e st ⟨⟨a15,Jg,a3⟩,an,aF⟩ -
  have d0:decide ((0:Int)<0)=false:=rfl
  (try((repeat(revert hN;revert N;apply Pn.out));refine wk (tw @a3 (tw @Jg (tw @a15 @d0))) ?_;(repeat(refine Pn.mk ?_;intro N hN))))
  exact gQ (.inl rfl) (vs:=[.cq]) (sd @a3) ⟨by(try dsimp only);omega,fun x hx=>aF x hx,.inl ⟨by rw[hps];rfl,rfl⟩⟩
 ·have B7:g2 c=some ⟨true,6,[[.sl (s.az.aC.map cw),.sl (s.az.ae.map bh),.sl (s.cr.ae.map ai),.int .i64 s.aw,.map T mP,.map O mP]]⟩:=(E5 c h.cv).trans eX
  have R8:g2 O=some ⟨true,mP.lp,es.map nU⟩:=(E5 O h.ov).trans hO
  have QL:=h.cv
  have QF:=h.ov
  (try((repeat(revert hN;revert N;apply Pn.out));refine wk @Nat.zero_add ?_;(repeat(refine Pn.mk ?_;intro N hN))))
  refine aM (fun n env st=>∃k:Nat,n=(ps.length)-k/\k<=(ps.length)/\env 15=.int .i64 (k:Int)/\(x2<=st.next/\(∀x:Id,x.bt<x2->st.get x=g2 x)/\Gc 84008005 x2 (qK (eu s l) s.az.ae.length (ps.take k)) (env 3) st.get st.next)) (ps.length) ⟨0,by omega,by omega,sl @Nat.zero_add,by(try dsimp only);exact⟨by omega,fun x hx=>sd @Nat.zero_add,.inl ⟨rfl,sd @Nat.zero_add⟩⟩⟩ ?_
  rintro n_a env_a st_a ⟨k,rfl,ale,a15,mE⟩ dq
  have a0:=dq 0 (by kernel_rfl);have LG:=dq 13 (by kernel_rfl);have Jg:=dq 14 (by kernel_rfl)
  simp only[go_sem, ↓reduceIte,Nat.reduceEqDiff,Nat.reduceAdd,Nat.reduceSub,Nat.reduceLeDiff,reduceCtorEq]at a0 LG Jg
  clear dq
  obtain⟨an,dq,a3⟩:=mE
  have bl:(qK (eu s l) s.az.ae.length (ps.take k)).length<=10000*160:=by
   have h2:=sN (eu s l) s.az.ae.length (ps.take k)
   have h3:(ps.take k).length*s.az.ae.length<=10000*160:=Nat.mul_le_mul (by rw[List.length_take];omega) Gn
   omega
  by_cases hk:(k:Int)<(ps.length:Int)
  ·have cE:∀{e:Env} {gg:Rows} {nx:Nat},(e 15=.int .i64 (IntKind.i64.wrap ((k:Int)+1)))->(x2<=nx/\(∀x:Id,x.bt<x2->gg x=g2 x)/\Gc 84008005 x2 (qK (eu s l) s.az.ae.length (ps.take (k+1))) (e 3) gg nx)->∃m0,m0<(ps.length)-k/\∃k:Nat,m0=(ps.length)-k/\k<=(ps.length)/\e 15=.int .i64 (k:Int)/\(x2<=nx/\(∀x:Id,x.bt<x2->gg x=g2 x)/\Gc 84008005 x2 (qK (eu s l) s.az.ae.length (ps.take k)) (e 3) gg nx):=fun x1 x2=>⟨_,by omega,k+1,rfl,by omega,(by rw[x1,aB (by omega)]),x2⟩
   have eV:k<ps.length:=by omega
   have sH:=(dq o MC).trans ho
   have vao:=ef (i:=o) (n:=st_a.next) (by omega)
   have gi:=sk eV
   have K7:=(dq c (by omega)).trans B7
   have vac:=ef (i:=c) (n:=st_a.next) (by omega)
   have hgO:=(dq O (by omega)).trans R8
   have vaO:=ef (i:=O) (n:=st_a.next) (by omega)
   obtain⟨o',xQ,SP,My⟩:∃o':Id,(jh ps k,AV.own o' 0 (ij s l (jh ps k)).length)∈es/\o'.bt<σ.next/\σ.get o'=some ⟨true,1,(ij s l (jh ps k)).map aA⟩:=by
    rcases hE.at_ (jh ps k) trivial with⟨h1,_⟩|⟨_,o',h2⟩
    ·exact absurd h1 (rj _ (yu eV))
    ·exact⟨o',h2⟩
   obtain⟨fi,DQ,_,_,zZ,Pr⟩:=wZ (jh ps k) es
   obtain⟨j0,rfl,Pm⟩:∃j,fi=some j/\(es.map nU)[j]? =some [.int .i64 (jh ps k).eI,.int .i64 (jh ps k).eB,.own o' 0 (ij s l (jh ps k)).length]:=by
    cases fi with
    |none=>exact absurd rfl (Pr rfl _ xQ)
    |some j=>
     obtain⟨v,hv⟩:=zZ j rfl
     have e:=J6 hE.nodup (List.mem_of_getElem? hv) xQ
     subst e
     exact⟨j,rfl,by rw[List.getElem?_map,hv];rfl⟩
   have Ge:=zi (B:=eu s l) (m:=s.az.ae.length) eV
   have fa:GL (eu s l) (jh ps k) s.az.ae.length=(ij s l (jh ps k)).map fun t=>(⟨jh ps k,t⟩:ad):=tr _ _ _
   rw[fa,<-AD]at Ge
   have JT:(ij s l (jh ps k)).length<=160:=by
    have:=qa (eu s l) (jh ps k) s.az.ae.length
    unfold ij;omega
   generalize jh ps k=q at DQ Pm xQ My gi Ge JT
   generalize ij s l q=us at Pm xQ My Ge JT
   generalize qK (eu s l) s.az.ae.length (ps.take k)=L at a3 bl Ge
   (try((repeat(revert hN;revert N;apply Pn.out));refine wk (tw @a15 (tw @a0 (tw @LG (tw @Jg (tw @hk (tw @sH (tw @vao (tw @gi (tw @K7 (tw @vac (tw @hgO (tw @vaO (tw @DQ (tw @Pm @ab.eq_1)))))))))))))) ?_;(repeat(refine Pn.mk ?_;intro N hN))))
   refine aM (fun n env st=>∃j:Nat,n=(us.length)-j/\j<=(us.length)/\env 26=.int .i64 (j:Int)/\st.get ⟨84004002,st_a.next+1⟩=some ⟨true,2,[ab q]⟩/\(st_a.next+2<=st.next/\(∀x:Id,x.bt<x2->st.get x=g2 x)/\Gc 84008005 x2 (L++jb q us j) (env 3) st.get st.next)) (us.length) ⟨0,by omega,by omega,sl (tw @a15 (tw @a0 (tw @LG (tw @Jg @ab.eq_1)))),sl (tw @a15 (tw @a0 (tw @LG (tw @Jg @ab.eq_1)))),by(try dsimp only);exact⟨by omega,fun x hx=>by
    have h2:=ef (i:=x) (n:=st_a.next) (by omega)
    have h3:=dq x hx
    simp only[go_sem, ↓reduceIte,Nat.reduceEqDiff,Nat.reduceAdd,Nat.reduceSub,Nat.reduceLeDiff,reduceCtorEq,h2,h3],by
    rw[show jb q us 0=[]from rfl,List.append_nil]
    exact a3.frame (sd @Nat.zero_add) (by omega) fun x hx=>by
     have h2:=ef hx
     simp only[go_sem, ↓reduceIte,Nat.reduceEqDiff,Nat.reduceAdd,Nat.reduceSub,Nat.reduceLeDiff,reduceCtorEq,h2]⟩⟩ ?_
   rintro n_b env_b st_b ⟨j,rfl,ble,b26,bg0,bI0⟩ eP
   have b0:=eP 0 (by kernel_rfl);have b5:=eP 5 (by kernel_rfl);have Bw:=eP 13 (by kernel_rfl);have LM:=eP 14 (by kernel_rfl);have LN:=eP 15 (by kernel_rfl);have LO:=eP 24 (by kernel_rfl);have LP:=eP 25 (by kernel_rfl)
   simp only[go_sem, ↓reduceIte,Nat.reduceEqDiff,Nat.reduceAdd,Nat.reduceSub,Nat.reduceLeDiff,reduceCtorEq,a15,a0,LG,Jg,ab]at b0 b5 Bw LM LN LO LP
   clear eP
   obtain⟨bn,eP,b3⟩:=bI0
   have Rj:=ef (i:=⟨84004002,st_a.next+1⟩) (n:=st_b.next) (by(try dsimp only);omega)
   have IZ:(L++jb q us j).length<=16777214:=by
    have:(jb q us j).length<=us.length:=by unfold jb;simp;omega
    rw[List.length_append];omega
   by_cases hj:(j:Int)<(us.length:Int)
   ·have eY:∀{e:Env} {gg:Rows} {nx:Nat},(e 26=.int .i64 (IntKind.i64.wrap ((j:Int)+1)))->(gg ⟨84004002,st_a.next+1⟩=some ⟨true,2,[ab q]⟩)->(st_a.next+2<=nx/\(∀x:Id,x.bt<x2->gg x=g2 x)/\Gc 84008005 x2 (L++jb q us (j+1)) (e 3) gg nx)->∃m0,m0<(us.length)-j/\∃j:Nat,m0=(us.length)-j/\j<=(us.length)/\e 26=.int .i64 (j:Int)/\gg ⟨84004002,st_a.next+1⟩=some ⟨true,2,[ab q]⟩/\(st_a.next+2<=nx/\(∀x:Id,x.bt<x2->gg x=g2 x)/\Gc 84008005 x2 (L++jb q us j) (e 3) gg nx):=fun x1 x2 x3=>⟨_,by omega,j+1,rfl,by omega,(by rw[x1,aB (by omega)]),x2,x3⟩
    have ll:j<us.length:=by omega
    have rm:=w9 (p:=q) ll
    have xR:=DX ll
    have Ph:=(eP o' (by omega)).trans ((E5 o' SP).trans My)
    have Qb:=ef (i:=o') (n:=st_b.next) (by omega)
    have tU:(us.map aA).length=us.length:=by simp
    have EZ:L++jb q us (j+1)=(L++jb q us j)++[⟨q,us.getD j 0⟩]:=by rw[rm,List.append_assoc]
    generalize us.getD j 0=t at xR EZ
    generalize L++jb q us j=M at b3 IZ EZ
    have wL:(M++[(⟨q,t⟩:ad)]).length=M.length+1:=by simp
    have vG:(M++[(⟨q,t⟩:ad)]).map ai=M.map ai++[[.int .i64 q.eI,.int .i64 q.eB,.int .i64 t]]:=by rw[List.map_append];rfl
    rcases b3 with⟨hM,b3⟩|⟨u,b3,hug,hum,huv,hul0,Q7⟩
    ·subst hM
     (try((repeat(revert hN;revert N;apply Pn.out));refine wk (tw @b26 (tw @bg0 (tw @b0 (tw @b5 (tw @Bw (tw @LM (tw @LN (tw @LO (tw @LP (tw @hj (tw @xR (tw @Ph (tw @Qb (tw @tU (tw @b3 (tw @Rj @ab.eq_1)))))))))))))))) ?_;(repeat(refine Pn.mk ?_;intro N hN))))
     refine eY ?_ ?_ (by(try dsimp only);exact⟨by omega,fun x hx=>by
      have h2:=ef (i:=x) (n:=st_b.next) (by omega)
      have h3:=eP x hx
      simp only[go_sem, ↓reduceIte,Nat.reduceEqDiff,Nat.reduceAdd,Nat.reduceSub,Nat.reduceLeDiff,reduceCtorEq,h2,h3],.inr ⟨⟨84008005,st_b.next+1+1⟩,by rw[EZ,wL];simp only[go_sem, ↓reduceIte,Nat.reduceEqDiff,Nat.reduceAdd,Nat.reduceSub,Nat.reduceLeDiff,reduceCtorEq]<;>rfl,by rw[EZ,vG];simp only[go_sem, ↓reduceIte,Nat.reduceEqDiff,Nat.reduceAdd,Nat.reduceSub,Nat.reduceLeDiff,reduceCtorEq]<;>rfl,by(try dsimp only);omega,by(try dsimp only);omega,by rw[EZ,wL];omega,rfl⟩⟩)
     all_goals simp only[go_sem, ↓reduceIte,Nat.reduceEqDiff,Nat.reduceAdd,Nat.reduceSub,Nat.reduceLeDiff,reduceCtorEq,b26,bg0,b0,b5,Bw,LM,LN,LO,LP,Rj,ab]
    ·have vub:=ef huv
     have gm:(M.map ai).length=M.length:=by simp
     have R7:M.length<=16777215:=by omega
     have ux:=fZ Q7 (b:=84004002) (v:=st_a.next+1) (by decide)
     (try((repeat(revert hN;revert N;apply Pn.out));refine wk (tw @b26 (tw @bg0 (tw @b0 (tw @b5 (tw @Bw (tw @LM (tw @LN (tw @LO (tw @LP (tw @hj (tw @xR (tw @Ph (tw @Qb (tw @tU (tw @b3 (tw @hug (tw @vub (tw @gm (tw @R7 (tw @Rj (tw @ux @ab.eq_1))))))))))))))))))))) ?_;(repeat(refine Pn.mk ?_;intro N hN))))
     refine eY ?_ ?_ (by(try dsimp only);exact⟨by omega,fun x hx=>by
      have h2:=ef (i:=x) (n:=st_b.next) (by omega)
      have h4:=dI (a:=x) (b:=u) (by omega)
      have h3:=eP x hx
      simp only[go_sem, ↓reduceIte,Nat.reduceEqDiff,Nat.reduceAdd,Nat.reduceSub,Nat.reduceLeDiff,reduceCtorEq,h2,h3,h4],.inr ⟨⟨84008005,st_b.next+1+1⟩,by rw[EZ,wL];simp only[go_sem, ↓reduceIte,Nat.reduceEqDiff,Nat.reduceAdd,Nat.reduceSub,Nat.reduceLeDiff,reduceCtorEq]<;>rfl,by rw[EZ,vG];simp only[go_sem, ↓reduceIte,Nat.reduceEqDiff,Nat.reduceAdd,Nat.reduceSub,Nat.reduceLeDiff,reduceCtorEq]<;>rfl,by(try dsimp only);omega,by(try dsimp only);omega,by rw[EZ,wL];omega,rfl⟩⟩)
     all_goals simp only[go_sem, ↓reduceIte,Nat.reduceEqDiff,Nat.reduceAdd,Nat.reduceSub,Nat.reduceLeDiff,reduceCtorEq,b26,bg0,b0,b5,Bw,LM,LN,LO,LP,Rj,ux,ab]
   ·have SD:j=us.length:=by omega
    subst SD
    (try((repeat(revert hN;revert N;apply Pn.out));refine wk (tw @b26 (tw @bg0 (tw @b0 (tw @b5 (tw @Bw (tw @LM (tw @LN (tw @LO (tw @LP @hj))))))))) ?_;(repeat(refine Pn.mk ?_;intro N hN))))
    exact cE (sd (tw @a15 (tw @a0 (tw @LG (tw @Jg (tw @b26 (tw @bg0 (tw @b0 (tw @b5 (tw @Bw (tw @LM (tw @LN (tw @LO @LP))))))))))))) (by(try dsimp only);exact⟨by omega,fun x hx=>eP x hx,by
     rw[Ge]
     exact b3.frame (sd @Nat.zero_add) (by omega) fun x hx=>rfl⟩)
  ·have jy:k=ps.length:=by omega
   subst jy
   rw[List.take_length]at a3
   (try((repeat(revert hN;revert N;apply Pn.out));refine wk (tw @a15 (tw @a0 (tw @LG (tw @Jg @hk)))) ?_;(repeat(refine Pn.mk ?_;intro N hN))))
   exact gQ (.inl rfl) (vs:=[env_a 3]) (sd @Nat.zero_add) ⟨by(try dsimp only);omega,fun x hx=>(dq x (by omega)).trans (E5 x hx),by
    rcases a3 with h1|⟨u,h1,h2,h3,h4,h5⟩
    ·exact .inl h1
    ·exact .inr ⟨u,h1,h2,by omega,by(try dsimp only);omega,h5⟩⟩
theorem M0 {σ:ax} {c T O:Id} {s:aG} {l:List ad} (h:Gv σ.get σ.next c T O s l) (hT:1<=s.aw) (hS:gJ s.az) (hA:jM s.az l):
  Call Tryz.prog 84 [.ptr c 0 0] σ (fun r σ'=>σ.next<=σ'.next/\(∀x:Id,x.bt<σ.next->σ'.get x=σ.get x)/\Gc 84008005 σ.next (qK (eu s l) s.az.ae.length (iJ l)) r σ'.get σ'.next):=M1 ⟨h.o.row,h.o.cv,h.o.ov,h.op⟩ hT hS hA
end Go.Proofs.YtgoljkjaameagaaGreat.V

namespace Go.Proofs.YtgoljkjaameagaaGreat.V
open Go.RowKit
end Go.Proofs.YtgoljkjaameagaaGreat.V

namespace Go.Proofs.YtgoljkjaameagaaGreat.V
open Go.RowKit
attribute [local irreducible] ej wpOps fQ Call
attribute [local go_sem] aH fq eD fH fG cV upd bZ K.av cC AV.cells AV.cell rowOf rowsOf part ld rowAt bK bR du dQ gE bB cR eb fF eL dh dV cP cN dD dE bF aT cG bE cI cH dS dW dU cF bJ cQ dR bD aJ cK cm gD bd cz bG aP dn aX dv AV.undef bj bx dG dO dz dF cu ea ei ck dY dX cJ cL List.getD_cons_zero List.getD_cons_succ List.getD_nil List.all_cons List.all_nil Bool.and_true Bool.true_and Bool.and_self Bool.not_true Bool.not_false Option.map_some Option.map_none Option.bind_some Option.bind_none List.length_cons List.length_nil List.take_succ_cons List.take_zero List.take_nil List.drop_succ_cons List.drop_zero List.drop_nil List.head?_cons List.map_cons List.map_nil List.getElem?_cons_zero List.getElem?_cons_succ List.cons_append List.nil_append List.append_nil List.length_map List.set_cons_zero List.set_cons_succ Nat.reduceMul eq_self Int.toNat_natCast Int.natCast_nonneg and_self true_and and_true decide_true decide_false Bool.false_eq_true Nat.zero_add Nat.add_zero List.contains_cons List.contains_nil Bool.or_false Bool.false_or beq_self_eq_true Nat.reduceBEq ne_eq not_true_eq_false not_false_eq_true Id.mk.injEq false_and and_false Nat.reduceLT Int.reduceLE Int.reduceLT Int.reduceToNat Int.reduceNeg Int.reduceAdd Nat.le_refl List.length_append beq_true beq_false Bool.not_eq_eq_eq_not or_false false_or eo aj ar aK aV bp bW aQ aZ aN aU cD bI
def se (p:ah->Bool) (l:List ah):List ah:=l.filter fun x=> !p x
theorem MY {p:ah->Bool} {l:List ah} {j:Nat} (hj:j<l.length):se p (l.take (j+1))=se p (l.take j)++if p l[j]=true then[]else[l[j]]:=by
 unfold se
 rw[List.take_succ_eq_append_getElem hj,List.filter_append]
 congr 1
 cases h:p l[j]<;>simp[h]
theorem MX {p:ah->Bool} {l:List ah} (h:∀b∈l,p b=false):se p l=l:=by
 unfold se
 rw[List.filter_eq_self]
 intro b hb
 rw[h b hb];rfl
structure DlP (p:ah->Bool) (bs:List ah) (j:Nat) (R:List ah):Prop where
 len:R.length=bs.length
 pre:R.take (se p (bs.take j)).length=se p (bs.take j)
 post:∀x,j<=x->R[x]? =bs[x]?
 lt:(se p (bs.take j)).length<j
theorem xM (s:aG) (l:List ad) (hn:fe s.az) (hm:rS s) (hl:l.length<=1048576):aq Tryz.prog 82 [.agg (aD s),.agg [.sl (l.map ai)]] (.int .i64 (if xq s l then 0 else 1)):=by
 refine aq.body eE rfl fun kM n0=>?_
 clear kM
 have h1:=oI GU s hn hm.s.g hm.s.t hm.s.s hm.a
 have h2:=mo s.az l hn hm.s.g hm.s.t hm.s.s hl
 cases b1:j8 s
 ·rw[b1]at h1
  rw[aD]at h1 ⊢
  (repeat(first|((repeat(revert hN;revert N;apply Pn.out));refine wk @Nat.zero_add ?_;(repeat(refine Pn.mk ?_;intro N hN)))|((try apply Or.inl);refine⟨_,aq.x (h1) (sd @Nat.zero_add),?_⟩;refine hN _ _ ?_;clear hN N)))
  exact bU (b:=1) (.inl rfl) (sd @Nat.zero_add) (by simp[xq,b1])
 have eQ:mT s.az=true:=kD.2 (qD.1 b1).set
 rw[b1]at h1
 rw[eQ,Bool.true_and]at h2
 rw[aD]at h1 ⊢
 rw[aa]at h2
 cases b2:lQ s.az l
 ·rw[b2]at h2
  (repeat(first|((repeat(revert hN;revert N;apply Pn.out));refine wk @Nat.zero_add ?_;(repeat(refine Pn.mk ?_;intro N hN)))|((try apply Or.inl);refine⟨_,aq.x (h1) (sd @Nat.zero_add),?_⟩;refine hN _ _ ?_;clear hN N)|((try apply Or.inl);refine⟨_,aq.x (h2) (sd @Nat.zero_add),?_⟩;refine hN _ _ ?_;clear hN N)))
  exact bU (b:=1) (.inl rfl) (sd @Nat.zero_add) (by simp[xq,b1,b2])
 ·rw[b2]at h2
  (repeat(first|((repeat(revert hN;revert N;apply Pn.out));refine wk @Nat.zero_add ?_;(repeat(refine Pn.mk ?_;intro N hN)))|((try apply Or.inl);refine⟨_,aq.x (h1) (sd @Nat.zero_add),?_⟩;refine hN _ _ ?_;clear hN N)|((try apply Or.inl);refine⟨_,aq.x (h2) (sd @Nat.zero_add),?_⟩;refine hN _ _ ?_;clear hN N)))
  exact bU (b:=0) (.inl rfl) (sd @Nat.zero_add) (by simp[xq,b1,b2])
theorem xZ (s:aG) (hP:Br s) (l:List ad) (hA:jM s.az l):aq Tryz.prog 78 [.dd (aD s),.dd [.sl (l.map ai)]] (.sl ((qK (eu s l) s.az.ae.length (iJ l)).map ai)):=by
 refine aq.body eE rfl fun kM n0=>?_
 clear kM
 have hS:=hP.set
 have Gn:=hS.uS
 have E6:=hA.1.A6
 have hlen:=ko l l.length
 have wL:eA l l.length=iJ l:=rfl
 rw[wL]at hlen
 have hnp:∀x∈iJ l,y9 l x:=fun x hx=>(wY l x).1 hx
 have hnv:=fun σ=>Fu l hA.1 σ
 clear wL
 generalize iJ l=ps at hlen hnp hnv ⊢
 (try((repeat(revert hN;revert N;apply Pn.out));refine wk @Nat.zero_add ?_;(repeat(refine Pn.mk ?_;intro N hN))))
 refine .inr (bL _ _ _ _ _ (fun r σ1 hq=>?_) (hnv _))
 obtain⟨g1,x1⟩:=σ1
 obtain⟨o0,rfl,q1,q2,q3,q4,q5⟩:=hq
 (try dsimp only at q1 q2 q3 q4 q5)
 have q6:=q5 ⟨78001000,n0+1⟩ (by(try dsimp only);omega) trivial
 simp only[go_sem, ↓reduceIte,Nat.reduceEqDiff,Nat.reduceAdd,Nat.reduceSub,Nat.reduceLeDiff,reduceCtorEq]at q6
 have on:n0+2<=o0.bt:=by rcases q4 with h|h;omega;exact absurd trivial h
 clear q4 q5
 refine hN _ _ ?_
 clear hN N
 (try((repeat(revert hN;revert N;apply Pn.out));refine wk (tw @q1 @q6) ?_;(repeat(refine Pn.mk ?_;intro N hN))))
 refine aM (fun n env st=>∃k:Nat,n=(ps.length)-k/\k<=(ps.length)/\env 7=.int .i64 (k:Int)/\st.get o0=some ⟨true,2,ps.map ab⟩/\(∃o:Id,env 5=.own o 0 (qK (eu s l) s.az.ae.length (ps.take k)).length/\st.get o=some ⟨true,3,(qK (eu s l) s.az.ae.length (ps.take k)).map ai⟩/\o.bt<st.next/\o0.bt<st.next/\o≠o0)) (ps.length) ⟨0,by omega,by omega,sl (tw @q1 @q6),sl (tw @q1 @q6),by(try dsimp only);exact⟨⟨78001000,n0+1⟩,sl @Nat.zero_add,sl @q6,by(try dsimp only);omega,by omega,fun e=>by rw[<-e]at on;(try dsimp only at on);omega⟩⟩ ?_
 rintro n_a env_a st_a ⟨k,rfl,ale,a7,ag0,mE⟩ dq
 have a0:=dq 0 (by kernel_rfl);have a1:=dq 1 (by kernel_rfl);have a6:=dq 6 (by kernel_rfl)
 simp only[go_sem, ↓reduceIte,Nat.reduceEqDiff,Nat.reduceAdd,Nat.reduceSub,Nat.reduceLeDiff,reduceCtorEq,q1,q6]at a0 a1 a6
 clear dq
 obtain⟨o,a5,ao,Rx,Qr,Rw⟩:=mE
 have vo:=ef Rx
 have v0:=ef Qr
 have Pu:=eq_false Rw
 have hoo2:=eq_false (fun e:o0=o=>Rw e.symm)
 have hB:(qK (eu s l) s.az.ae.length (ps.take k)).length<=10000*160:=by
  have h2:=sN (eu s l) s.az.ae.length (ps.take k)
  have h3:(ps.take k).length*s.az.ae.length<=10000*160:=Nat.mul_le_mul (by rw[List.length_take];omega) Gn
  omega
 by_cases hk:(k:Int)<(ps.length:Int)
 ·have cE:∀{e:Env} {gg:Rows} {nx:Nat},(e 7=.int .i64 (IntKind.i64.wrap ((k:Int)+1)))->(gg o0=some ⟨true,2,ps.map ab⟩)->(∃o:Id,e 5=.own o 0 (qK (eu s l) s.az.ae.length (ps.take (k+1))).length/\gg o=some ⟨true,3,(qK (eu s l) s.az.ae.length (ps.take (k+1))).map ai⟩/\o.bt<nx/\o0.bt<nx/\o≠o0)->∃m0,m0<(ps.length)-k/\∃k:Nat,m0=(ps.length)-k/\k<=(ps.length)/\e 7=.int .i64 (k:Int)/\gg o0=some ⟨true,2,ps.map ab⟩/\(∃o:Id,e 5=.own o 0 (qK (eu s l) s.az.ae.length (ps.take k)).length/\gg o=some ⟨true,3,(qK (eu s l) s.az.ae.length (ps.take k)).map ai⟩/\o.bt<nx/\o0.bt<nx/\o≠o0):=fun x1 x2 x3=>⟨_,by omega,k+1,rfl,by omega,(by rw[x1,aB (by omega)]),x2,x3⟩
  have eV:k<ps.length:=by omega
  have ev:=sk eV
  have pj:=hnp _ (yu eV)
  obtain⟨hx,hy⟩:=rH pj.1
  have yW:=(J8 s.az hS l hA (jh ps k) hx hy s.aw).cut mixed (.ptr _ [.sl (s.cr.ae.map ai),.int .i64 s.aw] (.same _ (.same _ (.same _ .nil))))
  have hfu:jQ (xr s.az l s.aw) (jh ps k) s.az.ae.length=ij s l (jh ps k):=wC (fun t=>(Ji pj hA t).symm) _
  rw[hfu]at yW
  have Ge:=zi (B:=eu s l) (m:=s.az.ae.length) eV
  have fa:GL (eu s l) (jh ps k) s.az.ae.length=(ij s l (jh ps k)).map fun t=>(⟨jh ps k,t⟩:ad):=tr _ _ _
  rw[fa,<-AD]at Ge
  have JT:(ij s l (jh ps k)).length<=160:=by
   have:=qa (eu s l) (jh ps k) s.az.ae.length
   unfold ij;omega
  have tU:(ps.map ab).length=ps.length:=by simp
  generalize jh ps k=q at yW Ge ev JT
  generalize ij s l q=us at yW Ge JT
  generalize qK (eu s l) s.az.ae.length (ps.take k)=L at a5 ao hB Ge
  rw[aa]at yW
  (repeat(first|((repeat(revert hN;revert N;apply Pn.out));refine wk (tw @a7 (tw @ag0 (tw @a0 (tw @a1 (tw @a6 (tw @hk (tw @ev (tw @v0 (tw @tU (tw @aD.eq_1 @ab.eq_1)))))))))) ?_;(repeat(refine Pn.mk ?_;intro N hN)))|((try apply Or.inl);refine⟨_,aq.x (yW) (sd (tw @a7 (tw @ag0 (tw @a0 (tw @a1 (tw @a6 (tw @hk (tw @ev (tw @v0 (tw @tU (tw @aD.eq_1 @ab.eq_1))))))))))),?_⟩;refine hN _ _ ?_;clear hN N)))
  refine aM (fun n env st=>∃j:Nat,n=(us.length)-j/\j<=(us.length)/\env 9=.int .i64 (j:Int)/\st.get o0=some ⟨true,2,ps.map ab⟩/\(∃o:Id,env 5=.own o 0 (L++jb q us j).length/\st.get o=some ⟨true,3,(L++jb q us j).map ai⟩/\o.bt<st.next/\o0.bt<st.next/\o≠o0)) (us.length) ⟨0,by omega,by omega,sl (tw @a7 (tw @ag0 (tw @a0 (tw @a1 @a6)))),sl (tw @a7 (tw @ag0 (tw @a0 (tw @a1 @a6)))),by(try dsimp only);exact⟨o,by rw[show jb q us 0=[]from rfl,List.append_nil];simp only[go_sem, ↓reduceIte,Nat.reduceEqDiff,Nat.reduceAdd,Nat.reduceSub,Nat.reduceLeDiff,reduceCtorEq,a5],by rw[show jb q us 0=[]from rfl,List.append_nil];simp only[go_sem, ↓reduceIte,Nat.reduceEqDiff,Nat.reduceAdd,Nat.reduceSub,Nat.reduceLeDiff,reduceCtorEq,ao,vo],by omega,by omega,Rw⟩⟩ ?_
  rintro n_b env_b st_b ⟨j,rfl,ble,b9,bg0,bI0⟩ eP
  have b0:=eP 0 (by kernel_rfl);have b1:=eP 1 (by kernel_rfl);have b6:=eP 6 (by kernel_rfl);have b7:=eP 7 (by kernel_rfl);have b8:=eP 8 (by kernel_rfl)
  simp only[go_sem, ↓reduceIte,Nat.reduceEqDiff,Nat.reduceAdd,Nat.reduceSub,Nat.reduceLeDiff,reduceCtorEq,a7,ag0,a0,a1,a6]at b0 b1 b6 b7 b8
  clear eP
  obtain⟨u,b5,bu,buv,K0,RB⟩:=bI0
  have IZ:(L++jb q us j).length<=16777215:=by
   have:(jb q us j).length<=us.length:=by unfold jb;simp;omega
   rw[List.length_append];omega
  have vu:=ef buv
  have v0b:=ef K0
  have hou:=eq_false RB
  have Pv:=eq_false (fun e:o0=u=>RB e.symm)
  by_cases hj:(j:Int)<(us.length:Int)
  ·have eY:∀{e:Env} {gg:Rows} {nx:Nat},(e 9=.int .i64 (IntKind.i64.wrap ((j:Int)+1)))->(gg o0=some ⟨true,2,ps.map ab⟩)->(∃o:Id,e 5=.own o 0 (L++jb q us (j+1)).length/\gg o=some ⟨true,3,(L++jb q us (j+1)).map ai⟩/\o.bt<nx/\o0.bt<nx/\o≠o0)->∃m0,m0<(us.length)-j/\∃j:Nat,m0=(us.length)-j/\j<=(us.length)/\e 9=.int .i64 (j:Int)/\gg o0=some ⟨true,2,ps.map ab⟩/\(∃o:Id,e 5=.own o 0 (L++jb q us j).length/\gg o=some ⟨true,3,(L++jb q us j).map ai⟩/\o.bt<nx/\o0.bt<nx/\o≠o0):=fun x1 x2 x3=>⟨_,by omega,j+1,rfl,by omega,(by rw[x1,aB (by omega)]),x2,x3⟩
   have ll:j<us.length:=by omega
   have rm:=w9 (p:=q) ll
   have xR:=DX ll
   have EZ:L++jb q us (j+1)=(L++jb q us j)++[⟨q,us.getD j 0⟩]:=by rw[rm,List.append_assoc]
   generalize us.getD j 0=t at xR EZ
   generalize L++jb q us j=M at b5 bu IZ EZ
   have wL:(M++[(⟨q,t⟩:ad)]).length=M.length+1:=by simp
   have vG:(M++[(⟨q,t⟩:ad)]).map ai=M.map ai++[[.int .i64 q.eI,.int .i64 q.eB,.int .i64 t]]:=by rw[List.map_append];rfl
   have gm:(M.map ai).length=M.length:=by simp
   have hmu:(us.map aA).length=us.length:=by simp
   (try((repeat(revert hN;revert N;apply Pn.out));refine wk (tw @b9 (tw @bg0 (tw @b0 (tw @b1 (tw @b6 (tw @b7 (tw @b8 (tw @b5 (tw @bu (tw @hj (tw @hk (tw @xR (tw @ev (tw @vu (tw @v0b (tw @hou (tw @Pv (tw @tU (tw @gm (tw @hmu (tw @IZ @ab.eq_1))))))))))))))))))))) ?_;(repeat(refine Pn.mk ?_;intro N hN))))
   refine eY ?_ ?_ (by(try dsimp only);exact⟨⟨78010011,st_b.next+1⟩,by rw[EZ,wL];simp only[go_sem, ↓reduceIte,Nat.reduceEqDiff,Nat.reduceAdd,Nat.reduceSub,Nat.reduceLeDiff,reduceCtorEq]<;>rfl,by rw[EZ,vG];simp only[go_sem, ↓reduceIte,Nat.reduceEqDiff,Nat.reduceAdd,Nat.reduceSub,Nat.reduceLeDiff,reduceCtorEq]<;>rfl,by(try dsimp only);omega,by(try dsimp only);omega,fun e=>by rw[<-e]at K0;(try dsimp only at K0);omega⟩)
   all_goals simp only[go_sem, ↓reduceIte,Nat.reduceEqDiff,Nat.reduceAdd,Nat.reduceSub,Nat.reduceLeDiff,reduceCtorEq,b9,bg0,b0,b1,b6,b7,b8,v0b,Pv]
  ·have SD:j=us.length:=by omega
   subst SD
   (try((repeat(revert hN;revert N;apply Pn.out));refine wk (tw @b9 (tw @bg0 (tw @b0 (tw @b1 (tw @b6 (tw @b7 (tw @b8 @hj))))))) ?_;(repeat(refine Pn.mk ?_;intro N hN))))
   refine cE ?_ ?_ (by(try dsimp only);exact⟨u,by rw[Ge];simp only[go_sem, ↓reduceIte,Nat.reduceEqDiff,Nat.reduceAdd,Nat.reduceSub,Nat.reduceLeDiff,reduceCtorEq,b5],by rw[Ge];simp only[go_sem, ↓reduceIte,Nat.reduceEqDiff,Nat.reduceAdd,Nat.reduceSub,Nat.reduceLeDiff,reduceCtorEq,bu],by omega,by omega,RB⟩)
   all_goals simp only[go_sem, ↓reduceIte,Nat.reduceEqDiff,Nat.reduceAdd,Nat.reduceSub,Nat.reduceLeDiff,reduceCtorEq,a7,ag0,a0,a1,a6,b9,bg0,b0,b1,b6,b7,b8]
 ·have jy:k=ps.length:=by omega
  subst jy
  rw[List.take_length]at a5 ao
  (try((repeat(revert hN;revert N;apply Pn.out));refine wk (tw @a7 (tw @ag0 (tw @a0 (tw @a1 (tw @a6 (tw @hk @a5)))))) ?_;(repeat(refine Pn.mk ?_;intro N hN))))
  exact iM (.inl rfl) (vs:=[.own o 0 (qK (eu s l) s.az.ae.length ps).length]) (sd @a5) (by
   simp only[eH]
   exact fw (e:=ai) (n:=5) ao rfl fun x=>OL _ 4 x)
theorem Ni {α:Type} (f:α->Nat) {xs:List α} {x:α} (h:x∈xs):f x<=(xs.map f).sum:=by
 induction xs with
 |nil=>cases h
 |cons y ys ih=>
  simp only[List.map_cons,List.sum_cons]
  rcases List.mem_cons.1 h with rfl|h
  ·omega
  ·have:=ih h;omega
theorem FV {s:aG} (h:yP s<=1048576):rS s:=by
 unfold yP uW at h
 refine⟨⟨by omega,by omega,fun t ht=>?_⟩,by omega⟩
 have:=Ni k7 ht
 have h2:t.bY.length<=k7 t:=by unfold k7;omega
 unfold xn
 omega
theorem xE (a:e7):aq Tryz.prog 22 [.agg (bc a),.agg (bc a)] (.bool true):=by
 refine aq.body eE rfl fun hl n0=>?_
 clear hl
 have h1:=rX a.ae a.ae
 rw[decide_eq_true rfl]at h1
 (repeat(first|((repeat(revert hN;revert N;apply Pn.out));refine wk @bc.eq_1 ?_;(repeat(refine Pn.mk ?_;intro N hN)))|((try apply Or.inl);refine⟨_,aq.x (h1) (sd @bc.eq_1),?_⟩;refine hN _ _ ?_;clear hN N)))
 exact aL (b:=true) (.inl rfl) (sd @Nat.zero_add) rfl
end Go.Proofs.YtgoljkjaameagaaGreat.V

namespace Go.Proofs.YtgoljkjaameagaaGreat.V
open Go.RowKit
attribute [local irreducible] ej wpOps fQ Call
attribute [local go_sem] aH fq eD fH fG cV upd bZ K.av cC AV.cells AV.cell rowOf rowsOf part ld rowAt bK bR du dQ gE bB cR eb fF eL dh dV cP cN dD dE bF aT cG bE cI cH dS dW dU cF bJ cQ dR bD aJ cK cm gD bd cz bG aP dn aX dv AV.undef bj bx dG dO dz dF cu ea ei ck dY dX cJ cL List.getD_cons_zero List.getD_cons_succ List.getD_nil List.all_cons List.all_nil Bool.and_true Bool.true_and Bool.and_self Bool.not_true Bool.not_false Option.map_some Option.map_none Option.bind_some Option.bind_none List.length_cons List.length_nil List.take_succ_cons List.take_zero List.take_nil List.drop_succ_cons List.drop_zero List.drop_nil List.head?_cons List.map_cons List.map_nil List.getElem?_cons_zero List.getElem?_cons_succ List.cons_append List.nil_append List.append_nil List.length_map List.set_cons_zero List.set_cons_succ eq_self Int.toNat_natCast Int.natCast_nonneg and_self true_and and_true decide_true decide_false Bool.false_eq_true Nat.zero_add Nat.add_zero List.contains_cons List.contains_nil Bool.or_false Bool.false_or beq_self_eq_true ne_eq not_true_eq_false not_false_eq_true Id.mk.injEq false_and and_false Nat.le_refl List.length_append beq_true beq_false Bool.not_eq_eq_eq_not or_false false_or eo aj ar aK aV bp bW aQ aZ aN aU cD bI
theorem Gx.cell {α:Type} {e:α->List AV} {L:List α} {w:AV} (h:Gx e L w):w.cells=[w]/\w.cell=true:=by
 rcases h with⟨rfl,rfl⟩|rfl<;>exact⟨rfl,rfl⟩
end Go.Proofs.YtgoljkjaameagaaGreat.V

namespace Go.Proofs.YtgoljkjaameagaaGreat.V
open Go.RowKit
attribute [local irreducible] ej wpOps fQ Call
attribute [local go_sem] aH fq eD fH fG cV upd bZ K.av cC AV.cells AV.cell rowOf rowsOf part ld rowAt bK bR du dQ gE bB cR eb fF eL dh dV cP cN dD dE bF aT cG bE cI cH dS dW dU cF bJ cQ dR bD aJ cK cm gD bd cz bG aP dn aX dv AV.undef bj bx dG dO dz dF cu ea ei ck dY dX cJ cL List.getD_cons_zero List.getD_cons_succ List.getD_nil List.all_cons List.all_nil Bool.and_true Bool.true_and Bool.and_self Bool.not_true Bool.not_false Option.map_some Option.map_none Option.bind_some Option.bind_none List.length_cons List.length_nil List.take_succ_cons List.take_zero List.take_nil List.drop_succ_cons List.drop_zero List.drop_nil List.head?_cons List.map_cons List.map_nil List.getElem?_cons_zero List.getElem?_cons_succ List.cons_append List.nil_append List.append_nil List.length_map List.set_cons_zero List.set_cons_succ Nat.reduceMul eq_self Int.toNat_natCast Int.natCast_nonneg and_self true_and and_true decide_true decide_false Bool.false_eq_true Nat.zero_add Nat.add_zero List.contains_cons List.contains_nil Bool.or_false Bool.false_or beq_self_eq_true Nat.reduceBEq ne_eq not_true_eq_false not_false_eq_true Id.mk.injEq false_and and_false Nat.reduceLT Int.reduceLE Int.reduceLT Int.reduceToNat Int.reduceNeg Int.reduceAdd Nat.le_refl List.length_append beq_true beq_false Bool.not_eq_eq_eq_not or_false false_or eo aj ar aK aV bp bW aQ aZ aN aU cD bI
noncomputable def mi (s:au) (ws:List Int):Bool:=mT s&&(decide ((ws.length:Int)=(s.ae.length:Int))&&ws.all fun n=>gn n 1 100)
structure Ot (s:au) (ws:List Int):Prop where
 set:gJ s
 len:ws.length=s.ae.length
 Rk:∀n∈ws,1<=n/\n<=100
theorem A5 {s:au} {ws:List Int}:mi s ws=true↔Ot s ws:=by
 unfold mi
 rw[Bool.and_eq_true,Bool.and_eq_true,kD,decide_eq_true_eq,List.all_eq_true]
 exact⟨fun⟨h1,h2,h3⟩=>⟨h1,by omega,fun n hn=>dM (h3 n hn)⟩,fun h=>⟨h.set,by rw[h.len],fun n hn=>gr (h.Rk n hn)⟩⟩
def Ek (ws:List Int) (t:Int):Int:=ws.getD t.toNat 0
theorem yN {ws:List Int} {t:Int} (h0:0<=t) (h1:t<ws.length):(ws.map aA)[t.toNat]? =some [.int .i64 (Ek ws t)]:=by
 have h:t.toNat<ws.length:=by omega
 simp[Ek,aA,List.getD_eq_getElem?_getD,h]
theorem yO {ws:List Int} {t:Int} (h0:0<=t) (h1:t<ws.length):Ek ws t∈ws:=by
 have h:t.toNat<ws.length:=by omega
 simp[Ek,List.getD_eq_getElem?_getD,h]
theorem PO {ws:List Int} {j:Nat} (h:j<ws.length):(ws.map aA)[j]? =some [.int .i64 ws[j]]:=by simp[aA,h]
def iF (ws:List Int) (L:List ad):Nat->Int
 |0=>0
 |k+1=>iF ws L k+Ek ws (aO L k).bq
def Dn (n:Nat) (L:List ad):Prop:=∀x∈L,0<=x.bq/\x.bq<n
theorem s8 {ws:List Int} {L:List ad} (hw:∀n∈ws,1<=n/\n<=100) (ho:Dn ws.length L):∀k,k<=L.length->0<=iF ws L k/\iF ws L k<=100*(k:Int)
 |0,_=>⟨Int.le_refl _,by simp[iF]⟩
 |k+1,h=>by
  have ih:=s8 hw ho k (by omega)
  obtain⟨h0,h1⟩:=ho _ (gP (by omega:k<L.length))
  have:=hw _ (yO h0 h1)
  rw[iF]
  omega
def pG (ws:List Int) (L:List ad):List Int:=L.map fun x=>Ek ws x.bq
theorem FJ {ws:List Int} {L:List ad} {k:Nat} (h:k<L.length):pG ws (L.take (k+1))=pG ws (L.take k)++[Ek ws (aO L k).bq]:=by
 unfold pG
 rw[List.take_succ_eq_append_getElem h,List.map_append,gy h];rfl
theorem Ie (ws:List Int) (L:List ad):(pG ws L).length=L.length:=by simp[pG]
noncomputable def qp (s:aG) (ws:List Int) (l:List ad):Int:=if j8 s&&mi s.az ws&&lQ s.az l then 0 else 1
theorem uB {s:aG} {ws:List Int} {l:List ad}:qp s ws l=0↔Br s/\Ot s.az ws/\jM s.az l:=by
 unfold qp
 rw[<-qD,<-A5,<-kd]
 cases j8 s<;>cases mi s.az ws<;>cases lQ s.az l<;>simp
noncomputable def nG (s:aG) (l:List ad):List ad:=qK (eu s l) s.az.ae.length (iJ l)
noncomputable def l7 (s:aG) (ws:List Int) (l:List ad):List Int×Int×Int:=if qp s ws l=0 then(pG ws (nG s l),iF ws (nG s l) (nG s l).length,0)else([],0,1)
theorem yl {s:aG} (hS:gJ s.az) {l:List ad} (hA:jM s.az l):(nG s l).length<=40000*160/\Dn s.az.ae.length (nG s l):=by
 have Gn:=hS.uS
 refine⟨?_,fun x hx=>?_⟩
 ·have h2:=sN (eu s l) s.az.ae.length (iJ l)
  have h4:(iJ l).length<=l.length*4:=ko l l.length
  have h5:=hA.1.A6
  have h3:(iJ l).length*s.az.ae.length<=40000*160:=Nat.mul_le_mul (by omega) Gn
  unfold nG;omega
 ·unfold nG qK at hx
  obtain⟨q,_,hx⟩:=List.mem_flatMap.1 hx
  rw[tr]at hx
  obtain⟨k,hk,rfl⟩:=List.mem_map.1 hx
  exact Hg _ _ _ k hk
theorem Ka (s:au) (ws:List Int) (hn:fe s) (hg:s.aC.length<=1048576) (ht:s.ae.length<=1048576) (hw:ws.length<=1048576):aq Tryz.prog 145 [.dd (aa s),.sl (ws.map aA)] (.bool (mi s ws)):=by
 refine aq.body eE rfl fun hl n0=>?_
 clear hl
 have h1:=DZ s hn hg ht
 have gm:(ws.map aA).length=ws.length:=by simp
 have Cj:(s.ae.map bh).length=s.ae.length:=by simp
 cases b1:mT s
 ·rw[b1]at h1
  (repeat(first|((repeat(revert hN;revert N;apply Pn.out));refine wk @Nat.zero_add ?_;(repeat(refine Pn.mk ?_;intro N hN)))|((try apply Or.inl);refine⟨_,aq.x (h1) (sd @Nat.zero_add),?_⟩;refine hN _ _ ?_;clear hN N)))
  exact aL (b:=false) (.inl rfl) (sd @Nat.zero_add) (by rw[mi,b1];rfl)
 rw[b1]at h1
 rw[aa]at h1 ⊢
 by_cases b2:(ws.length:Int)=(s.ae.length:Int)
 ·have d2:=decide_eq_true b2
  (repeat(first|((repeat(revert hN;revert N;apply Pn.out));refine wk (tw @gm (tw @Cj @d2)) ?_;(repeat(refine Pn.mk ?_;intro N hN)))|((try apply Or.inl);refine⟨_,aq.x (h1) (sd (tw @gm (tw @Cj @d2))),?_⟩;refine hN _ _ ?_;clear hN N)))
  refine aM (fun n env st=>∃k:Nat,n=(ws.length)-k/\k<=(ws.length)/\env 5=.int .i64 (k:Int)/\(∀j:Nat,j<k->∀h:j<ws.length,gn ws[j] 1 100=true)) (ws.length) ⟨0,by omega,by omega,sl @aa.eq_1,fun _ h=>absurd h (Nat.not_lt_zero _)⟩ ?_
  rintro n_a env_a st_a ⟨k,rfl,ale,a5,lk⟩ dq
  have a0:=dq 0 (by kernel_rfl);have a1:=dq 1 (by kernel_rfl)
  simp only[go_sem, ↓reduceIte,Nat.reduceEqDiff,Nat.reduceAdd,Nat.reduceSub,Nat.reduceLeDiff,reduceCtorEq,aa]at a0 a1
  clear dq
  by_cases hk:(k:Int)<(ws.length:Int)
  ·have cE:∀{e:Env},(e 5=.int .i64 (IntKind.i64.wrap ((k:Int)+1)))->(∀h:k<ws.length,gn ws[k] 1 100=true)->∃m0,m0<(ws.length)-k/\∃k:Nat,m0=(ws.length)-k/\k<=(ws.length)/\e 5=.int .i64 (k:Int)/\(∀j:Nat,j<k->∀h:j<ws.length,gn ws[j] 1 100=true):=fun x1 x2=>⟨_,by omega,k+1,rfl,by omega,(by rw[x1,aB (by omega)]),(all_succ lk x2)⟩
   have eV:k<ws.length:=by omega
   have ev:=PO eV
   have e9:=iY ws[k] 1 100
   have dy:gn ws[k] 1 100=false->mi s ws=false:=fun h=>by
    have:ws.all (fun n=>gn n 1 100)=false:=by
     rw[List.all_eq_false]
     exact⟨ws[k],List.getElem_mem eV,by rw[h];simp⟩
    rw[mi,this,b1];simp
   generalize hq:ws[k]=x at ev e9 dy
   cases b3:gn x 1 100
   ·rw[b3]at e9
    (repeat(first|((repeat(revert hN;revert N;apply Pn.out));refine wk (tw @a5 (tw @a0 (tw @a1 (tw @hk (tw @ev @gm))))) ?_;(repeat(refine Pn.mk ?_;intro N hN)))|((try apply Or.inl);refine⟨_,aq.x (e9) (sd (tw @a5 (tw @a0 (tw @a1 (tw @hk (tw @ev @gm)))))),?_⟩;refine hN _ _ ?_;clear hN N)))
    exact aL (b:=false) (.inl rfl) (sd @Nat.zero_add) (dy b3).symm
   ·rw[b3]at e9
    (repeat(first|((repeat(revert hN;revert N;apply Pn.out));refine wk (tw @a5 (tw @a0 (tw @a1 (tw @hk (tw @ev @gm))))) ?_;(repeat(refine Pn.mk ?_;intro N hN)))|((try apply Or.inl);refine⟨_,aq.x (e9) (sd (tw @a5 (tw @a0 (tw @a1 (tw @hk (tw @ev @gm)))))),?_⟩;refine hN _ _ ?_;clear hN N)))
    exact cE (sd (tw @a5 (tw @a0 (tw @a1 @aa.eq_1)))) (fun h=>by rw[hq];exact b3)
  ·have jy:k=ws.length:=by omega
   subst jy
   have dy:mi s ws=true:=by
    have:ws.all (fun n=>gn n 1 100)=true:=by
     rw[List.all_eq_true]
     intro n hn
     obtain⟨j,hj,rfl⟩:=List.getElem_of_mem hn
     exact lk j hj hj
    rw[mi,this,b1,decide_eq_true b2];rfl
   (try((repeat(revert hN;revert N;apply Pn.out));refine wk (tw @a5 (tw @a0 (tw @a1 (tw @hk @gm)))) ?_;(repeat(refine Pn.mk ?_;intro N hN))))
   exact aL (b:=true) (.inl rfl) (sd @Nat.zero_add) dy.symm
 ·have d2:=decide_eq_false b2
  (repeat(first|((repeat(revert hN;revert N;apply Pn.out));refine wk (tw @gm (tw @Cj @d2)) ?_;(repeat(refine Pn.mk ?_;intro N hN)))|((try apply Or.inl);refine⟨_,aq.x (h1) (sd (tw @gm (tw @Cj @d2))),?_⟩;refine hN _ _ ?_;clear hN N)))
  exact aL (b:=false) (.inl rfl) (sd @Nat.zero_add) (by rw[mi,b1,d2];rfl)
theorem Cy (s:aG) (ws:List Int) (l:List ad) (hn:fe s.az) (hg:s.az.aC.length<=1048576) (ht:s.az.ae.length<=1048576) (hw:ws.length<=1048576):aq Tryz.prog 77 [.dd (aD s),.sl (ws.map aA),.dd [.sl (l.map ai)]] (.int .i64 (qp s ws l)):=by
 refine aq.body eE rfl fun hl n0=>?_
 clear hl
 have h1:=J9 s hn hg ht
 have h2:=(Ka s.az ws hn hg ht hw).cut mixed (.ptr _ [.sl (s.cr.ae.map ai),.int .i64 s.aw] (.same _ .nil))
 have h3:=(D4 s.az l).cut mixed (.ptr _ [.sl (s.cr.ae.map ai),.int .i64 s.aw] (.same _ .nil))
 cases b1:j8 s
 ·rw[b1]at h1
  (repeat(first|((repeat(revert hN;revert N;apply Pn.out));refine wk @Nat.zero_add ?_;(repeat(refine Pn.mk ?_;intro N hN)))|((try apply Or.inl);refine⟨_,aq.x (h1) (sd @Nat.zero_add),?_⟩;refine hN _ _ ?_;clear hN N)))
  exact bU (b:=1) (.inl rfl) (sd @Nat.zero_add) (by rw[qp,b1];rfl)
 rw[b1]at h1
 rw[aD]at h1 ⊢
 cases b2:mi s.az ws
 ·rw[b2]at h2
  (repeat(first|((repeat(revert hN;revert N;apply Pn.out));refine wk @aa.eq_1 ?_;(repeat(refine Pn.mk ?_;intro N hN)))|((try apply Or.inl);refine⟨_,aq.x (h1) (sd @aa.eq_1),?_⟩;refine hN _ _ ?_;clear hN N)|((try apply Or.inl);refine⟨_,aq.x (h2) (sd @aa.eq_1),?_⟩;refine hN _ _ ?_;clear hN N)))
  exact bU (b:=1) (.inl rfl) (sd @Nat.zero_add) (by rw[qp,b1,b2];rfl)
 rw[b2]at h2
 cases b3:lQ s.az l
 ·rw[b3]at h3
  (repeat(first|((repeat(revert hN;revert N;apply Pn.out));refine wk @aa.eq_1 ?_;(repeat(refine Pn.mk ?_;intro N hN)))|((try apply Or.inl);refine⟨_,aq.x (h1) (sd @aa.eq_1),?_⟩;refine hN _ _ ?_;clear hN N)|((try apply Or.inl);refine⟨_,aq.x (h2) (sd @aa.eq_1),?_⟩;refine hN _ _ ?_;clear hN N)|((try apply Or.inl);refine⟨_,aq.x (h3) (sd @aa.eq_1),?_⟩;refine hN _ _ ?_;clear hN N)))
  exact bU (b:=1) (.inl rfl) (sd @Nat.zero_add) (by rw[qp,b1,b2,b3];rfl)
 ·rw[b3]at h3
  (repeat(first|((repeat(revert hN;revert N;apply Pn.out));refine wk @aa.eq_1 ?_;(repeat(refine Pn.mk ?_;intro N hN)))|((try apply Or.inl);refine⟨_,aq.x (h1) (sd @aa.eq_1),?_⟩;refine hN _ _ ?_;clear hN N)|((try apply Or.inl);refine⟨_,aq.x (h2) (sd @aa.eq_1),?_⟩;refine hN _ _ ?_;clear hN N)|((try apply Or.inl);refine⟨_,aq.x (h3) (sd @aa.eq_1),?_⟩;refine hN _ _ ?_;clear hN N)))
  exact bU (b:=0) (.inl rfl) (sd @Nat.zero_add) (by rw[qp,b1,b2,b3];rfl)
theorem Cz (ws:List Int) (L:List ad) (hw:∀n∈ws,1<=n/\n<=100) (ho:Dn ws.length L) (hl:L.length<=40000*160) (MS:ws.length<=1048576):aq Tryz.prog 79 [.sl (ws.map aA),.sl (L.map ai)] (.int .i64 (iF ws L L.length)):=by
 refine aq.body eE rfl fun kM n0=>?_
 clear kM
 have gm:(ws.map aA).length=ws.length:=by simp
 have tU:(L.map ai).length=L.length:=by simp
 have hz:iF ws L 0=0:=rfl
 (try((repeat(revert hN;revert N;apply Pn.out));refine wk @Nat.zero_add ?_;(repeat(refine Pn.mk ?_;intro N hN))))
 refine aM (fun n env st=>∃k:Nat,n=(L.length)-k/\k<=(L.length)/\env 6=.int .i64 (k:Int)/\env 5=.int .i64 (iF ws L k)) (L.length) ⟨0,by omega,by omega,sl @hz,sl @hz⟩ ?_
 rintro n_a env_a st_a ⟨k,rfl,ale,a6,a5⟩ dq
 have a0:=dq 0 (by kernel_rfl);have a1:=dq 1 (by kernel_rfl)
 simp only[go_sem, ↓reduceIte,Nat.reduceEqDiff,Nat.reduceAdd,Nat.reduceSub,Nat.reduceLeDiff,reduceCtorEq,hz]at a0 a1
 clear dq
 by_cases hk:(k:Int)<(L.length:Int)
 ·have cE:∀{e:Env},(e 6=.int .i64 (IntKind.i64.wrap ((k:Int)+1)))->(e 5=.int .i64 (iF ws L (k+1)))->∃m0,m0<(L.length)-k/\∃k:Nat,m0=(L.length)-k/\k<=(L.length)/\e 6=.int .i64 (k:Int)/\e 5=.int .i64 (iF ws L k):=fun x1 x2=>⟨_,by omega,k+1,rfl,by omega,(by rw[x1,aB (by omega)]),x2⟩
  have eV:k<L.length:=by omega
  have ev:=fj eV
  obtain⟨t0,t1⟩:=ho _ (gP eV)
  have yX:=yN t0 t1
  have e9:=s8 hw ho k (by omega)
  have MP:=hw _ (yO t0 t1)
  have hs:iF ws L (k+1)=iF ws L k+Ek ws (aO L k).bq:=rfl
  have PI:IntKind.i64.wrap (iF ws L k+Ek ws (aO L k).bq)=iF ws L (k+1):=by rw[hs,bz (by omega)]
  generalize aO L k=x at ev t0 t1 yX PI
  (try((repeat(revert hN;revert N;apply Pn.out));refine wk (tw @a6 (tw @a5 (tw @a0 (tw @a1 (tw @hk (tw @ev (tw @tU (tw @gm (tw @t0 (tw @t1 (tw @yX @ai.eq_1))))))))))) ?_;(repeat(refine Pn.mk ?_;intro N hN))))
  refine cE ?_ ?_
  all_goals simp only[go_sem, ↓reduceIte,Nat.reduceEqDiff,Nat.reduceAdd,Nat.reduceSub,Nat.reduceLeDiff,reduceCtorEq,a6,a5,a0,a1,PI]
 ·have jy:k=L.length:=by omega
  subst jy
  (try((repeat(revert hN;revert N;apply Pn.out));refine wk (tw @a6 (tw @a5 (tw @a0 (tw @a1 (tw @hk @tU))))) ?_;(repeat(refine Pn.mk ?_;intro N hN))))
  exact bU (b:=iF ws L L.length) (.inl rfl) (sd (tw @a6 (tw @a5 (tw @a0 @a1)))) rfl
theorem Nb (ws:List Int) (t:Int) (h0:0<=t) (h1:t<ws.length):aq Tryz.prog 155 [.sl (ws.map aA),.int .i64 t] (.int .i64 (Ek ws t)):=by
 refine aq.body eE rfl fun kM n0=>?_
 clear kM
 have gm:(ws.map aA).length=ws.length:=by simp
 have yX:=yN h0 h1
 have hz:decide ((ws.length:Int)=0)=false:=decide_eq_false (by omega)
 (try((repeat(revert hN;revert N;apply Pn.out));refine wk (tw @gm (tw @hz (tw @h0 (tw @h1 @yX)))) ?_;(repeat(refine Pn.mk ?_;intro N hN))))
 exact bU (b:=Ek ws t) (.inl rfl) (sd @Nat.zero_add) rfl
theorem KH (ws:List Int) (L:List ad) (hw:∀n∈ws,1<=n/\n<=100) (ho:Dn ws.length L) (hl:L.length<=40000*160):aq Tryz.prog 85 [.sl (ws.map aA),.sl (L.map ai)] (.int .i64 (iF ws L L.length)):=by
 refine aq.body eE rfl fun kM n0=>?_
 clear kM
 have tU:(L.map ai).length=L.length:=by simp
 have hz:iF ws L 0=0:=rfl
 (try((repeat(revert hN;revert N;apply Pn.out));refine wk @tU ?_;(repeat(refine Pn.mk ?_;intro N hN))))
 refine aM (fun n env st=>∃k:Nat,n=(L.length)-k/\k<=(L.length)/\env 10=.int .i64 (k:Int)/\env 5=.int .i64 (iF ws L k)) (L.length) ⟨0,by omega,by omega,sl (tw @hz @tU),sl (tw @hz @tU)⟩ ?_
 rintro n_a env_a st_a ⟨k,rfl,ale,mu,a5⟩ dq
 have a0:=dq 0 (by kernel_rfl);have a8:=dq 8 (by kernel_rfl);have a9:=dq 9 (by kernel_rfl)
 simp only[go_sem, ↓reduceIte,Nat.reduceEqDiff,Nat.reduceAdd,Nat.reduceSub,Nat.reduceLeDiff,reduceCtorEq,hz,tU]at a0 a8 a9
 clear dq
 by_cases hk:(k:Int)<(L.length:Int)
 ·have cE:∀{e:Env},(e 10=.int .i64 (IntKind.i64.wrap ((k:Int)+1)))->(e 5=.int .i64 (iF ws L (k+1)))->∃m0,m0<(L.length)-k/\∃k:Nat,m0=(L.length)-k/\k<=(L.length)/\e 10=.int .i64 (k:Int)/\e 5=.int .i64 (iF ws L k):=fun x1 x2=>⟨_,by omega,k+1,rfl,by omega,(by rw[x1,aB (by omega)]),x2⟩
  have eV:k<L.length:=by omega
  have ev:=fj eV
  obtain⟨t0,t1⟩:=ho _ (gP eV)
  have Q3:=Nb ws _ t0 t1
  have e9:=s8 hw ho k (by omega)
  have MP:=hw _ (yO t0 t1)
  have hs:iF ws L (k+1)=iF ws L k+Ek ws (aO L k).bq:=rfl
  have PI:IntKind.i64.wrap (iF ws L k+Ek ws (aO L k).bq)=iF ws L (k+1):=by rw[hs,bz (by omega)]
  generalize aO L k=x at ev Q3 PI
  (repeat(first|((repeat(revert hN;revert N;apply Pn.out));refine wk (tw @mu (tw @a5 (tw @a0 (tw @a8 (tw @a9 (tw @hk (tw @ev (tw @tU @ai.eq_1)))))))) ?_;(repeat(refine Pn.mk ?_;intro N hN)))|((try apply Or.inl);refine⟨_,aq.x (Q3) (sd (tw @mu (tw @a5 (tw @a0 (tw @a8 (tw @a9 (tw @hk (tw @ev (tw @tU @ai.eq_1))))))))),?_⟩;refine hN _ _ ?_;clear hN N)))
  refine cE ?_ ?_
  all_goals simp only[go_sem, ↓reduceIte,Nat.reduceEqDiff,Nat.reduceAdd,Nat.reduceSub,Nat.reduceLeDiff,reduceCtorEq,mu,a5,a0,a8,a9,PI]
 ·have jy:k=L.length:=by omega
  subst jy
  (try((repeat(revert hN;revert N;apply Pn.out));refine wk (tw @mu (tw @a5 (tw @a0 (tw @a8 (tw @a9 (tw @hk @tU)))))) ?_;(repeat(refine Pn.mk ?_;intro N hN))))
  exact bU (b:=iF ws L L.length) (.inl rfl) (sd (tw @mu (tw @a5 (tw @a0 (tw @a8 @a9))))) rfl
theorem Nr (n:Int):aq Tryz.prog 227 [.int .i64 n] (.bool (!gn n 1 100)):=by
 refine aq.body eE rfl fun hl n0=>?_
 clear hl
 have h:=gT n 1 100
 (repeat(first|((repeat(revert hN;revert N;apply Pn.out));refine wk @Nat.zero_add ?_;(repeat(refine Pn.mk ?_;intro N hN)))|((try apply Or.inl);refine⟨_,aq.x (h) (sd @Nat.zero_add),?_⟩;refine hN _ _ ?_;clear hN N)))
 exact aL (b:= !gn n 1 100) (.inl rfl) (sd @Nat.zero_add) rfl
theorem KJ (ws:List Int) (hl:ws.length<=1048576):aq Tryz.prog 226 [.sl (ws.map aA),.fn 227 []] (.bool (ws.any fun n=> !gn n 1 100)):=
 ke Dy (show mU Tryz.prog 226=some (xP 226 279) by kernel_rfl)
  (show mU Tryz.prog 279=some (rq 279 1 false) by kernel_rfl) ws hl _ _ _ rfl (fun g=>by rw[ar]) (fun x _=>Nr x) fun g=>by rw[ar]
theorem tq (s:au) (ws:List Int) (hn:fe s) (hg:s.aC.length<=1048576) (ht:s.ae.length<=1048576) (hs:∀t∈s.ae,t.bY.length<=1048576) (hw:ws.length<=1048576):aq Tryz.prog 150 [.agg (aa s),.sl (ws.map aA)] (.bool (mi s ws)):=by
 refine aq.body eE rfl fun hl n0=>?_
 clear hl
 have h1:=tp s hn hg ht hs
 have h2:=KJ ws hw
 have gm:(ws.map aA).length=ws.length:=by simp
 have Cj:(s.ae.map bh).length=s.ae.length:=by simp
 have dy:(!(ws.any fun n=> !gn n 1 100))=ws.all fun n=>gn n 1 100:=by rw[List.all_eq_not_any_not]
 cases b1:mT s
 ·rw[b1]at h1
  rw[aa]at h1 ⊢
  (repeat(first|((repeat(revert hN;revert N;apply Pn.out));refine wk @Nat.zero_add ?_;(repeat(refine Pn.mk ?_;intro N hN)))|((try apply Or.inl);refine⟨_,aq.x (h1) (sd @Nat.zero_add),?_⟩;refine hN _ _ ?_;clear hN N)))
  exact aL (b:=false) (.inl rfl) (sd @Nat.zero_add) (by rw[mi,b1];rfl)
 rw[b1]at h1
 rw[aa]at h1 ⊢
 by_cases b2:(ws.length:Int)=(s.ae.length:Int)
 ·have d2:=decide_eq_true b2
  (repeat(first|((repeat(revert hN;revert N;apply Pn.out));refine wk (tw @gm (tw @Cj @d2)) ?_;(repeat(refine Pn.mk ?_;intro N hN)))|((try apply Or.inl);refine⟨_,aq.x (h1) (sd (tw @gm (tw @Cj @d2))),?_⟩;refine hN _ _ ?_;clear hN N)|((try apply Or.inl);refine⟨_,aq.x (h2) (sd (tw @gm (tw @Cj @d2))),?_⟩;refine hN _ _ ?_;clear hN N)))
  exact aL (b:= !(ws.any fun n=> !gn n 1 100)) (.inl rfl) (sd @Nat.zero_add) (by rw[dy,mi,b1,d2];rfl)
 ·have d2:=decide_eq_false b2
  (repeat(first|((repeat(revert hN;revert N;apply Pn.out));refine wk (tw @gm (tw @Cj @d2)) ?_;(repeat(refine Pn.mk ?_;intro N hN)))|((try apply Or.inl);refine⟨_,aq.x (h1) (sd (tw @gm (tw @Cj @d2))),?_⟩;refine hN _ _ ?_;clear hN N)))
  exact aL (b:=false) (.inl rfl) (sd @Nat.zero_add) (by rw[mi,b1,d2];rfl)
theorem vM (s:aG) (ws:List Int) (hn:fe s.az) (hm:rS s) (hw:ws.length<=1048576):aq Tryz.prog 81 [.agg (aD s),.sl (ws.map aA)] (.int .i64 (if j8 s&&mi s.az ws then 0 else 1)):=by
 refine aq.body eE rfl fun hl n0=>?_
 clear hl
 have h1:=oI GU s hn hm.s.g hm.s.t hm.s.s hm.a
 have h2:=tq s.az ws hn hm.s.g hm.s.t hm.s.s hw
 cases b1:j8 s
 ·rw[b1]at h1
  rw[aD]at h1 ⊢
  (repeat(first|((repeat(revert hN;revert N;apply Pn.out));refine wk @Nat.zero_add ?_;(repeat(refine Pn.mk ?_;intro N hN)))|((try apply Or.inl);refine⟨_,aq.x (h1) (sd @Nat.zero_add),?_⟩;refine hN _ _ ?_;clear hN N)))
  exact bU (b:=1) (.inl rfl) (sd @Nat.zero_add) (by simp[b1])
 rw[b1]at h1
 rw[aD]at h1 ⊢
 rw[aa]at h2
 cases b2:mi s.az ws
 ·rw[b2]at h2
  (repeat(first|((repeat(revert hN;revert N;apply Pn.out));refine wk @Nat.zero_add ?_;(repeat(refine Pn.mk ?_;intro N hN)))|((try apply Or.inl);refine⟨_,aq.x (h1) (sd @Nat.zero_add),?_⟩;refine hN _ _ ?_;clear hN N)|((try apply Or.inl);refine⟨_,aq.x (h2) (sd @Nat.zero_add),?_⟩;refine hN _ _ ?_;clear hN N)))
  exact bU (b:=1) (.inl rfl) (sd @Nat.zero_add) (by simp[b1,b2])
 ·rw[b2]at h2
  (repeat(first|((repeat(revert hN;revert N;apply Pn.out));refine wk @Nat.zero_add ?_;(repeat(refine Pn.mk ?_;intro N hN)))|((try apply Or.inl);refine⟨_,aq.x (h1) (sd @Nat.zero_add),?_⟩;refine hN _ _ ?_;clear hN N)|((try apply Or.inl);refine⟨_,aq.x (h2) (sd @Nat.zero_add),?_⟩;refine hN _ _ ?_;clear hN N)))
  exact bU (b:=0) (.inl rfl) (sd @Nat.zero_add) (by simp[b1,b2])
def Bl (P:Program) (f:Nat) (args:List AV) (R:List Int×Int×Int):Prop:=
 ∀n:Nat,Call P f args ⟨fun _=>none,n⟩ (fun r σ'=>∃v ids,r=.im [v,.int .i64 R.2.1,.int .i64 R.2.2]/\On aA 1 σ'.get v R.1 ids/\Gz n σ'.next ids)
theorem Bl.s {P:Program} {f:Nat} {args:List AV} {R:List Int×Int×Int} (h:Bl P f args R):aq P f args (.im [PZ aA R.1,.int .i64 R.2.1,.int .i64 R.2.2]):=fun n=>
 bL _ _ _ _ _ (fun r σ' hq=>by
  obtain⟨v,ids,rfl,ho,hi⟩:=hq
  rcases ho with⟨h0,rfl,_⟩|⟨o,rfl,h2,_,hp⟩
  ·exact⟨_,by simp only[dZ,aS,bm,kf,dr,Option.map_some];rfl,by rw[h0];rfl⟩
  ·have:=fw (e:=aA) (n:=4) h2 rfl fun x=>by simp[aA,aS,bm,dr]
   exact⟨_,by simp only[dZ,aS,bm,this,dr,Option.map_some];rfl,by rw[PZ,if_neg (by omega)]⟩) (h n)
def Rp (z m:Nat) (L:List Int) (v:AV) (g:Rows) (n:Nat):Prop:=(L=[]/\v=.cq)∨∃u:Id,v=.own u 0 L.length/\g u=some ⟨true,1,L.map aA⟩/\m<=u.bt/\u.bt<n/\0<L.length/\u.site=z
theorem Eu (s:aG) (ws:List Int) (l:List ad) (hn:fe s.az) (hm:rS s) (MS:ws.length<=1048576) (hl:l.length<=1048576):Bl Tryz.prog 19 [.agg (aD s),.sl (ws.map aA),.agg [.sl (l.map ai)]] (l7 s ws l):=by
 intro n0
 refine iq eE rfl fun kM=>?_
 clear kM
 have h1:=vM s ws hn hm MS
 have h2:aq Tryz.prog 82 [.agg (aD s),.agg [.sl (l.map ai)]] (.int .i64 (if xq s l then 0 else 1)):=xM s l hn hm hl
 cases bk:j8 s&&mi s.az ws
 ·have hr:l7 s ws l=([],0,1):=by rw[l7,qp,bk];rfl
  rw[hr]
  rw[bk]at h1
  rw[aD]at h1 ⊢
  (repeat(first|((repeat(revert hN;revert N;apply Pn.out));refine wk @Nat.zero_add ?_;(repeat(refine Pn.mk ?_;intro N hN)))|((try apply Or.inl);refine⟨_,aq.x (h1) (sd @Nat.zero_add),?_⟩;refine hN _ _ ?_;clear hN N)))
  exact gQ (.inl rfl) (vs:=[.cq,.int .i64 0,.int .i64 1]) (sd @Nat.zero_add) ⟨.cq,[],rfl,.inl ⟨rfl,rfl,rfl⟩,⟨List.nodup_nil,fun i hi=>by cases hi⟩⟩
 rw[bk]at h1
 obtain⟨bs,bw⟩:=Bool.and_eq_true_iff.1 bk
 cases ba:xq s l
 ·have Sh:lQ s.az l=false:=by rw[xq,bs,Bool.true_and]at ba;exact ba
  have hr:l7 s ws l=([],0,1):=by rw[l7,qp,bk,Sh];rfl
  rw[hr]
  rw[ba]at h2
  rw[aD]at h1 h2 ⊢
  (repeat(first|((repeat(revert hN;revert N;apply Pn.out));refine wk @Nat.zero_add ?_;(repeat(refine Pn.mk ?_;intro N hN)))|((try apply Or.inl);refine⟨_,aq.x (h1) (sd @Nat.zero_add),?_⟩;refine hN _ _ ?_;clear hN N)|((try apply Or.inl);refine⟨_,aq.x (h2) (sd @Nat.zero_add),?_⟩;refine hN _ _ ?_;clear hN N)))
  exact gQ (.inl rfl) (vs:=[.cq,.int .i64 0,.int .i64 1]) (sd @Nat.zero_add) ⟨.cq,[],rfl,.inl ⟨rfl,rfl,rfl⟩,⟨List.nodup_nil,fun i hi=>by cases hi⟩⟩
 obtain⟨hP,hA⟩:=GH.1 ba
 have hW:=A5.1 bw
 have h0:qp s ws l=0:=uB.2 ⟨hP,hW,hA⟩
 have hT:1<=s.aw:=(dM hP.IE).1
 have hr:l7 s ws l=(pG ws (nG s l),iF ws (nG s l) (nG s l).length,0):=by rw[l7,if_pos h0]
 rw[hr]
 rw[ba]at h2
 have hc:=fun σ=>yj s hP.set hT l hA σ
 obtain⟨IZ,K5⟩:=yl hP.set hA
 obtain⟨L,hLe⟩:∃L,nG s l=L:=⟨_,rfl⟩
 rw[hLe]at IZ K5 ⊢
 rw[<-hW.len]at K5
 have h3:=KH ws L hW.Rk K5 IZ
 have gm:(ws.map aA).length=ws.length:=by simp
 rw[aD]at h1 h2 hc ⊢
 (repeat(first|((repeat(revert hN;revert N;apply Pn.out));refine wk @Nat.zero_add ?_;(repeat(refine Pn.mk ?_;intro N hN)))|((try apply Or.inl);refine⟨_,aq.x (h1) (sd @Nat.zero_add),?_⟩;refine hN _ _ ?_;clear hN N)|((try apply Or.inl);refine⟨_,aq.x (h2) (sd @Nat.zero_add),?_⟩;refine hN _ _ ?_;clear hN N)))
 refine .inr (bL _ _ _ _ _ (fun r σ1 hq=>?_) (hc _))
 obtain⟨g1,x1⟩:=σ1
 obtain⟨c,T,O,rfl,hC,QL,Se,QF,nV,ly⟩:=hq
 (try dsimp only at hC QL Se QF nV ly)
 refine hN _ _ ?_
 clear hN N
 (try((repeat(revert hN;revert N;apply Pn.out));refine wk @Nat.zero_add ?_;(repeat(refine Pn.mk ?_;intro N hN))))
 refine .inr (bL _ _ _ _ _ (fun r σ2 hq=>?_) (M0 (σ:=⟨g1,_⟩) (hC.frame (by(try dsimp only);omega) fun x hx=>rfl) hT hP.set hA))
 obtain⟨g2,x2⟩:=σ2
 obtain⟨E9,E5,hq⟩:=hq
 (try dsimp only at hq E9 E5)
 have Gi:Gc 84008005 _ (nG s l) r g2 x2:=hq
 clear hq
 rw[hLe]at Gi
 refine hN _ _ ?_
 clear hN N
 rcases Gi with⟨hL,rfl⟩|⟨u,rfl,hu,hum,I9,yY,Q7⟩
 ·subst hL
  have h3n:=h3.cut mixed (.same _ (.cq .nil))
  (try((repeat(revert hN;revert N;apply Pn.out));refine wk @Nat.zero_add ?_;(repeat(refine Pn.mk ?_;intro N hN))))
  refine aM (fun n env st=>(env 29=.int .i64 0/\env 28=.int .i64 0/\env 9=.cq/\env 1=.sl (ws.map aA)/\env 10=.cq)/\n0<=st.next) 0 ⟨⟨sd @Nat.zero_add,sl @Nat.zero_add,sd @Nat.zero_add,sd @Nat.zero_add,sd @Nat.zero_add⟩,by(try dsimp only);omega⟩ ?_
  rintro m e st ⟨⟨a29,a28,a9,a1,mu⟩,an⟩ -
  have d0:decide ((0:Int)<0)=false:=rfl
  (repeat(first|((repeat(revert hN;revert N;apply Pn.out));refine wk (tw @a29 (tw @a28 (tw @a9 (tw @a1 (tw @mu @d0))))) ?_;(repeat(refine Pn.mk ?_;intro N hN)))|((try apply Or.inl);refine⟨_,aq.x (h3n) (sd (tw @a29 (tw @a28 (tw @a9 (tw @a1 (tw @mu @d0)))))),?_⟩;refine hN _ _ ?_;clear hN N)))
  exact gQ (.inl rfl) (vs:=[.cq,.int .i64 0,.int .i64 0]) (by simp only[e6,gS,go_sem, ↓reduceIte,Nat.reduceEqDiff,Nat.reduceAdd,Nat.reduceSub,Nat.reduceLeDiff,reduceCtorEq,a9];rfl) ⟨.cq,[],rfl,.inl ⟨rfl,rfl,rfl⟩,⟨List.nodup_nil,fun i hi=>by cases hi⟩⟩
 ·have tU:(L.map ai).length=L.length:=by simp
  (try((repeat(revert hN;revert N;apply Pn.out));refine wk @Nat.zero_add ?_;(repeat(refine Pn.mk ?_;intro N hN))))
  refine aM (fun n env st=>∃k:Nat,n=(L.length)-k/\k<=(L.length)/\env 29=.int .i64 (k:Int)/\(x2<=st.next/\(∀x:Id,x.bt<x2->st.get x=g2 x)/\Rp 19008007 x2 (pG ws (L.take k)) (env 9) st.get st.next)) (L.length) ⟨0,by omega,by omega,sl @Nat.zero_add,by(try dsimp only);exact⟨by omega,fun x hx=>sd @Nat.zero_add,.inl ⟨rfl,sd @Nat.zero_add⟩⟩⟩ ?_
  rintro n_a env_a st_a ⟨k,rfl,ale,a29,mE⟩ dq
  have a1:=dq 1 (by kernel_rfl);have mu:=dq 10 (by kernel_rfl);have LI:=dq 27 (by kernel_rfl);have a28:=dq 28 (by kernel_rfl)
  simp only[go_sem, ↓reduceIte,Nat.reduceEqDiff,Nat.reduceAdd,Nat.reduceSub,Nat.reduceLeDiff,reduceCtorEq]at a1 mu LI a28
  clear dq
  obtain⟨an,dq,a9⟩:=mE
  have fu:=(dq u I9).trans hu
  have vu:=ef (i:=u) (n:=st_a.next) (by omega)
  by_cases hk:(k:Int)<(L.length:Int)
  ·have cE:∀{e:Env} {gg:Rows} {nx:Nat},(e 29=.int .i64 (IntKind.i64.wrap ((k:Int)+1)))->(x2<=nx/\(∀x:Id,x.bt<x2->gg x=g2 x)/\Rp 19008007 x2 (pG ws (L.take (k+1))) (e 9) gg nx)->∃m0,m0<(L.length)-k/\∃k:Nat,m0=(L.length)-k/\k<=(L.length)/\e 29=.int .i64 (k:Int)/\(x2<=nx/\(∀x:Id,x.bt<x2->gg x=g2 x)/\Rp 19008007 x2 (pG ws (L.take k)) (e 9) gg nx):=fun x1 x2=>⟨_,by omega,k+1,rfl,by omega,(by rw[x1,aB (by omega)]),x2⟩
   have eV:k<L.length:=by omega
   have ev:=fj eV
   obtain⟨t0,t1⟩:=K5 _ (gP eV)
   have yX:=yN t0 t1
   have rm:=FJ (ws:=ws) eV
   have JK:(pG ws (L.take k)).length=k:=by rw[Ie,List.length_take];omega
   have ph:k<=16777215:=by omega
   generalize aO L k=x at ev t0 t1 yX rm
   generalize pG ws (L.take k)=M at a9 rm JK
   have Gl:(pG ws (L.take (k+1))).map aA=M.map aA++[[.int .i64 (Ek ws x.bq)]]:=by rw[rm,List.map_append];rfl
   have u9:(pG ws (L.take (k+1))).length=M.length+1:=by rw[rm];simp
   rcases a9 with⟨hM,a9⟩|⟨o,a9,MB,hom,MC,dB,xU⟩
   ·subst hM
    (try((repeat(revert hN;revert N;apply Pn.out));refine wk (tw @a29 (tw @a1 (tw @mu (tw @LI (tw @a28 (tw @hk (tw @ev (tw @tU (tw @gm (tw @fu (tw @vu (tw @t0 (tw @t1 (tw @yX (tw @a9 @ai.eq_1))))))))))))))) ?_;(repeat(refine Pn.mk ?_;intro N hN))))
    exact cE (sd (tw @a29 (tw @a1 (tw @mu (tw @LI @a28))))) (by(try dsimp only);exact⟨by omega,fun x hx=>by
     have h2:=ef (i:=x) (n:=st_a.next) (by omega)
     have h3:=dq x hx
     simp only[go_sem, ↓reduceIte,Nat.reduceEqDiff,Nat.reduceAdd,Nat.reduceSub,Nat.reduceLeDiff,reduceCtorEq,h2,h3],.inr ⟨⟨19008007,st_a.next+1+1⟩,by rw[u9];simp only[go_sem, ↓reduceIte,Nat.reduceEqDiff,Nat.reduceAdd,Nat.reduceSub,Nat.reduceLeDiff,reduceCtorEq]<;>rfl,by rw[Gl];simp only[go_sem, ↓reduceIte,Nat.reduceEqDiff,Nat.reduceAdd,Nat.reduceSub,Nat.reduceLeDiff,reduceCtorEq]<;>rfl,by(try dsimp only);omega,by(try dsimp only);omega,by rw[u9];omega,rfl⟩⟩)
   ·have vo:=ef MC
    have JL:(M.map aA).length=M.length:=by simp
    have R7:M.length<=16777215:=by omega
    (try((repeat(revert hN;revert N;apply Pn.out));refine wk (tw @a29 (tw @a1 (tw @mu (tw @LI (tw @a28 (tw @hk (tw @ev (tw @tU (tw @gm (tw @fu (tw @vu (tw @t0 (tw @t1 (tw @yX (tw @a9 (tw @MB (tw @vo (tw @JL (tw @R7 @ai.eq_1))))))))))))))))))) ?_;(repeat(refine Pn.mk ?_;intro N hN))))
    exact cE (sd (tw @a29 (tw @a1 (tw @mu (tw @LI @a28))))) (by(try dsimp only);exact⟨by omega,fun x hx=>by
     have h2:=ef (i:=x) (n:=st_a.next) (by omega)
     have h4:=dI (a:=x) (b:=o) (by omega)
     have h3:=dq x hx
     simp only[go_sem, ↓reduceIte,Nat.reduceEqDiff,Nat.reduceAdd,Nat.reduceSub,Nat.reduceLeDiff,reduceCtorEq,h2,h3,h4],.inr ⟨⟨19008007,st_a.next+1+1⟩,by rw[u9];simp only[go_sem, ↓reduceIte,Nat.reduceEqDiff,Nat.reduceAdd,Nat.reduceSub,Nat.reduceLeDiff,reduceCtorEq]<;>rfl,by rw[Gl];simp only[go_sem, ↓reduceIte,Nat.reduceEqDiff,Nat.reduceAdd,Nat.reduceSub,Nat.reduceLeDiff,reduceCtorEq]<;>rfl,by(try dsimp only);omega,by(try dsimp only);omega,by rw[u9];omega,rfl⟩⟩)
  ·have jy:k=L.length:=by omega
   subst jy
   rw[List.take_length]at a9
   (try((repeat(revert hN;revert N;apply Pn.out));refine wk (tw @a29 (tw @a1 (tw @mu (tw @LI (tw @a28 (tw @hk @fu)))))) ?_;(repeat(refine Pn.mk ?_;intro N hN))))
   refine .inl ⟨_,aq.x h3 (by
    have:=gO (e:=ai) (g:=eo st_a.get) (sz:=3) (n:=5) (len:=L.length) (l:=L) (id:=u) (by simp[eo,fu]) rfl fun x=>by simp[ai,aj,ar,aK]
    simp only[aj,ar,bW,this,Option.map_some]),?_⟩
   refine hN _ _ ?_
   clear hN N
   (try((repeat(revert hN;revert N;apply Pn.out));refine wk (tw @a29 (tw @a1 (tw @mu (tw @LI @a28)))) ?_;(repeat(refine Pn.mk ?_;intro N hN))))
   exact gQ (.inl rfl) (vs:=[env_a 9,.int .i64 (iF ws L L.length),.int .i64 0]) (sd @Nat.zero_add) (by
    rcases a9 with⟨hM,a9⟩|⟨o,a9,MB,hom,MC,dB,xU⟩
    ·exact⟨env_a 9,[],rfl,.inl ⟨hM,a9,rfl⟩,⟨List.nodup_nil,fun i hi=>by cases hi⟩⟩
    ·exact⟨env_a 9,[o],rfl,.inr ⟨o,a9,MB,rfl,dB⟩,⟨List.nodup_cons.2 ⟨by simp,List.nodup_nil⟩,fun i hi=>by rw[List.mem_singleton.1 hi];(try dsimp only);omega⟩⟩)
end Go.Proofs.YtgoljkjaameagaaGreat.V

namespace Go.Proofs.YtgoljkjaameagaaGreat
open Go.RowKit
theorem AQ (a b:Nat):((a:Int).tmod (b:Int))=((a % b:Nat):Int):=by
 rw[Int.tmod_eq_emod_of_nonneg (by omega)];omega
theorem Jw (w:World) (a0 b0:Nat) (ha:a0<=1000000000) (hb:b0<=1000000000):
  Calls Tryz.prog 234 #[.int .i64 a0,.int .i64 b0] w fun e w'=>e=.returned (.int .i64 ((Nat.gcd a0 b0:Nat):Int))/\Below w.heap.size w w':=by
 go_enter Tryz.func234,Tryz.ntmps234
 go_wp2
 go_loopw [0,1] (fun va vb wr=>∃a b:Nat,va=.int .i64 a/\vb=.int .i64 b/\a<=1000000000/\b<=1000000000/\Nat.gcd a b=Nat.gcd a0 b0/\Below w.heap.size w wr) (fun _ vb _=>(intOf vb).natAbs)
 case atStart=>exact⟨a0,b0,rfl,rfl,ha,hb,rfl,Below.refl _ _⟩
 case round=>
  obtain⟨a,b,rfl,rfl,Gh,DR,hg,DL⟩:=hrel
  go_wp2
  ·have wD:¬(b:Int)=0:=by simpa using ‹((b:Int) !=0)=true›
   have DN:0<b:=by omega
   have dJ:a % b<b:=Nat.mod_lt _ DN
   go_region
   all_goals (try go_wp2)
   all_goals (
    go_roundw
    case rel=>
     refine⟨b,a % b,rfl,?_,DR,by omega,?_,DL.drew⟩
     ·first|rfl|simp
     ·rw[<-hg,Nat.gcd_comm b (a % b),<-Nat.gcd_rec,Nat.gcd_comm]
    case measure=>simp[intOf,AQ];omega)
  ·have wD:b=0:=by
    have:(b:Int)=0:=by simpa using ‹((b:Int) !=0)=false›
    omega
   subst wD
   go_ret
   refine⟨?_,DL⟩
   rw[<-hg,Nat.gcd_zero_right]
   have Mx:max (a:Int) (-(a:Int))=a:=by omega
   show Ending.returned (Value.int IntKind.i64 (max (a:Int) (-(a:Int))))= _
   rw[Mx]
namespace V
theorem OM (a b:Nat) (ha:a<=1000000000) (hb:b<=1000000000):lJ Tryz.prog 234 [.int .i64 a,.int .i64 b] (.int .i64 ((Nat.gcd a b:Nat):Int)):=by
 intro σ
 refine fR fun hs D ι w vs S U A=>?_
 obtain⟨u,us,rfl,h1,h2⟩:=iL A
 obtain⟨u',us',h3,h4,h5⟩:=iL h2
 simp at h3;subst h3
 have:=qq h5
 simp at this;subst this
 rw[dc h1,dc h4]
 refine(Jw w a b ha hb).mono ?_
 rintro e w' ⟨rfl,hb⟩
 exact⟨_,_,σ.next,D,ι,_,rfl,⟨_,aK _ _ _ _,rfl⟩,Step.stay S hb.block hb.size hb.os hb.tape hb.output (fun _ h=>h) (fun _ h=>.inl h) (fun _ _ h=>h),
  S.stay hb.block hb.size (fun _ h=>h) (fun b hd=>Nat.lt_of_lt_of_le (S.dead b hd) hb.size) (fun _ h=>.inl h) (fun _ _ h=>h),U,Nat.le_refl _,.eO _ _ (.int _ _)⟩
end V
end Go.Proofs.YtgoljkjaameagaaGreat

namespace Go.Proofs.YtgoljkjaameagaaGreat.V
open Go.RowKit
attribute [local irreducible] ej wpOps fQ Call
attribute [local go_sem] aH fq eD fH fG cV upd bZ K.av cC AV.cells AV.cell rowOf rowsOf part ld rowAt bK bR du dQ gE bB cR eb fF eL dh dV cP cN dD dE bF aT cG bE cI cH dS dW dU cF bJ cQ dR bD aJ cK cm gD bd cz bG aP dn aX dv AV.undef bj bx dG dO dz dF cu ea ei ck dY dX cJ cL List.getD_cons_zero List.getD_cons_succ List.getD_nil List.all_cons List.all_nil Bool.and_true Bool.true_and Bool.and_self Bool.not_true Bool.not_false Option.map_some Option.map_none Option.bind_some Option.bind_none List.length_cons List.length_nil List.take_succ_cons List.take_zero List.take_nil List.drop_succ_cons List.drop_zero List.drop_nil List.head?_cons List.map_cons List.map_nil List.getElem?_cons_zero List.getElem?_cons_succ List.cons_append List.nil_append List.append_nil List.length_map List.set_cons_zero List.set_cons_succ Nat.reduceMul eq_self Int.toNat_natCast Int.natCast_nonneg and_self true_and and_true decide_true decide_false Bool.false_eq_true Nat.zero_add Nat.add_zero List.contains_cons List.contains_nil Bool.or_false Bool.false_or beq_self_eq_true Nat.reduceBEq ne_eq not_true_eq_false not_false_eq_true Id.mk.injEq false_and and_false Nat.reduceLT Int.reduceLE Int.reduceLT Int.reduceToNat Int.reduceNeg Int.reduceAdd Nat.le_refl List.length_append beq_true beq_false Bool.not_eq_eq_eq_not or_false false_or eo aj ar aK aV bp bW aQ aZ aN aU cD bI
def Hf (x:Int×Int):List AV:=[.int .i64 x.1,.int .i64 x.2]
noncomputable def Lr (s:aG) (ws:List Int) (l:List ad):(Int×Int)×Int:=if (l7 s ws l).2.2=0 then(if (l7 s ws l).2.1=0 then((0,0),3)else((1,(l7 s ws l).2.1),0))else((0,0),(l7 s ws l).2.2)
theorem IH {s:aG} {ws:List Int} {l:List ad}:0<=(l7 s ws l).2.1/\(l7 s ws l).2.1<=1000000000:=by
 unfold l7
 split
 ·rename_i h0
  obtain⟨hP,hW,hA⟩:=uB.1 h0
  obtain⟨h1,h2⟩:=yl hP.set hA
  rw[<-hW.len]at h2
  have h3:=s8 hW.Rk h2 _ (Nat.le_refl _)
  (try dsimp only)
  omega
 ·simp
theorem Ak (n:Nat) (h:n<=1000000000):aq Tryz.prog 157 [.int .i64 n] (.int .i64 n):=by
 refine aq.body eE rfl fun hl n0=>?_
 clear hl
 have h1:¬(n:Int)<0:=by omega
 (try((repeat(revert hN;revert N;apply Pn.out));refine wk @h1 ?_;(repeat(refine Pn.mk ?_;intro N hN))))
 exact bU (b:=(n:Int)) (.inl rfl) (sd @Nat.zero_add) rfl
theorem Al (a0 b0:Nat) (ha:a0<=1000000000) (hb:b0<=1000000000):aq Tryz.prog 156 [.int .i64 a0,.int .i64 b0] (.int .i64 ((Nat.gcd a0 b0:Nat):Int)):=by
 refine aq.body eE rfl fun hl n0=>?_
 clear hl
 (try((repeat(revert hN;revert N;apply Pn.out));refine wk @Nat.zero_add ?_;(repeat(refine Pn.mk ?_;intro N hN))))
 refine aM (fun n env st=>∃a b:Nat,n=b/\env 0=.int .i64 a/\env 1=.int .i64 b/\a<=1000000000/\b<=1000000000/\Nat.gcd a b=Nat.gcd a0 b0) b0 ⟨a0,b0,rfl,sd @Nat.zero_add,sd @Nat.zero_add,ha,hb,rfl⟩ ?_
 rintro n e st ⟨a,b,rfl,e0,e1,Gh,DR,hg⟩ -
 by_cases h0:(0:Int)<(n:Int)
 ·have DN:0<n:=by omega
  have dJ:a % n<n:=Nat.mod_lt _ DN
  have Gk:=AQ a n
  have gM:¬(n:Int)=0:=by omega
  (try((repeat(revert hN;revert N;apply Pn.out));refine wk (tw @e0 (tw @e1 (tw @h0 (tw @gM @Gk)))) ?_;(repeat(refine Pn.mk ?_;intro N hN))))
  exact⟨a % n,dJ,n,a % n,rfl,sd @e1,sd @Gk,DR,by omega,by rw[<-hg,Nat.gcd_comm n (a % n),<-Nat.gcd_rec,Nat.gcd_comm]⟩
 ·have wD:n=0:=by omega
  subst wD
  (try((repeat(revert hN;revert N;apply Pn.out));refine wk (tw @e0 (tw @e1 @h0)) ?_;(repeat(refine Pn.mk ?_;intro N hN))))
  exact bU (b:=(a:Int)) (.inl rfl) (sd @e0) (by rw[<-hg,Nat.gcd_zero_right])
theorem Ea (t:Nat):((t:Int).tdiv 1)=t:=Int.tdiv_one _
theorem gcd_one (t:Nat):Nat.gcd 1 t=1:=Nat.gcd_one_left t
theorem Cu (t:Nat) (h1:1<=t) (h2:t<=1000000000):aq Tryz.prog 158 [.agg [.int .i64 1,.int .i64 t]] (.bool true):=by
 refine aq.body eE rfl fun hl n0=>?_
 clear hl
 have q1:=iY 1 (-1000000000) 1000000000
 have q2:=iY t 1 1000000000
 rw[gr (by omega)]at q1
 rw[gr (by omega)]at q2
 have q3:=Ak 1 (by omega)
 have q4:=Al 1 t (by omega) h2
 rw[gcd_one]at q4
 rw[Int.natCast_one]at q3 q4
 (repeat(first|((repeat(revert hN;revert N;apply Pn.out));refine wk @Nat.zero_add ?_;(repeat(refine Pn.mk ?_;intro N hN)))|((try apply Or.inl);refine⟨_,aq.x (q1) (sd @Nat.zero_add),?_⟩;refine hN _ _ ?_;clear hN N)|((try apply Or.inl);refine⟨_,aq.x (q2) (sd @Nat.zero_add),?_⟩;refine hN _ _ ?_;clear hN N)|((try apply Or.inl);refine⟨_,aq.x (q3) (sd @Nat.zero_add),?_⟩;refine hN _ _ ?_;clear hN N)|((try apply Or.inl);refine⟨_,aq.x (q4) (sd @Nat.zero_add),?_⟩;refine hN _ _ ?_;clear hN N)))
 exact aL (b:=true) (.inl rfl) (sd @Nat.zero_add) rfl
theorem Cv (t:Nat) (h1:1<=t) (h2:t<=1000000000):aq Tryz.prog 86 [.int .i64 1,.int .i64 t] (.im [.agg [.int .i64 1,.int .i64 t],.int .i64 0]):=by
 refine aq.body eE rfl fun hl n0=>?_
 clear hl
 have h0:¬(t:Int)<0:=by omega
 have q3:=Ak 1 (by omega)
 have q4:=Al 1 t (by omega) h2
 have q5:=Cu t h1 h2
 rw[gcd_one]at q4
 rw[Int.natCast_one]at q3 q4
 have wN:((1:Int).tdiv 1)=1:=rfl
 have zU:=Ea t
 have hz:¬(1:Int)=0:=by omega
 have w1:IntKind.i64.wrap 1=1:=bz (by omega)
 have w2:IntKind.i64.wrap (t:Int)=t:=bz (by omega)
 (repeat(first|((repeat(revert hN;revert N;apply Pn.out));refine wk (tw @h0 (tw @wN (tw @zU (tw @hz (tw @w1 @w2))))) ?_;(repeat(refine Pn.mk ?_;intro N hN)))|((try apply Or.inl);refine⟨_,aq.x (q3) (sd (tw @h0 (tw @wN (tw @zU (tw @hz (tw @w1 @w2)))))),?_⟩;refine hN _ _ ?_;clear hN N)|((try apply Or.inl);refine⟨_,aq.x (q4) (sd (tw @h0 (tw @wN (tw @zU (tw @hz (tw @w1 @w2)))))),?_⟩;refine hN _ _ ?_;clear hN N)|((try apply Or.inl);refine⟨_,aq.x (q5) (sd (tw @h0 (tw @wN (tw @zU (tw @hz (tw @w1 @w2)))))),?_⟩;refine hN _ _ ?_;clear hN N)))
 exact iM (.inl rfl) (vs:=[.agg [.int .i64 1,.int .i64 t],.int .i64 0]) (sd @Nat.zero_add) (by simp only[eH,dZ,jx,aS,bm,dr,Option.map_some])
theorem Bp (s:aG) (ws:List Int) (l:List ad) (hn:fe s.az) (hg:s.az.aC.length<=1048576) (ht:s.az.ae.length<=1048576) (MS:ws.length<=1048576):aq Tryz.prog 27 [.agg (aD s),.sl (ws.map aA),.agg [.sl (l.map ai)]] (.im [.agg (Hf (Lr s ws l).1),.int .i64 (Lr s ws l).2]):=by
 have h1:=Cy s ws l hn hg ht MS
 have z6:=IH (s:=s) (ws:=ws) (l:=l)
 refine aq.body eE rfl fun kM n0=>?_
 clear kM
 by_cases h0:qp s ws l=0
 ·obtain⟨hP,hW,hA⟩:=uB.1 h0
  have hr:l7 s ws l=(pG ws (nG s l),iF ws (nG s l) (nG s l).length,0):=by rw[l7,if_pos h0]
  rw[h0]at h1
  have h2:aq Tryz.prog 78 [.dd (aD s),.dd [.sl (l.map ai)]] (.sl ((nG s l).map ai)):=xZ s hP l hA
  obtain⟨IZ,K5⟩:=yl hP.set hA
  rw[Lr,hr]
  rw[hr]at z6
  generalize nG s l=L at h2 IZ K5 z6 ⊢
  rw[<-hW.len]at K5
  have h3:=Cz ws L hW.Rk K5 IZ MS
  (try dsimp only at z6 ⊢)
  obtain⟨t,ht⟩:∃t:Nat,iF ws L L.length=t:=⟨(iF ws L L.length).toNat,by omega⟩
  rw[ht]at h3 z6 ⊢
  rw[if_pos rfl]
  rw[aD]at h1 h2 ⊢
  by_cases JR:(t:Int)=0
  ·rw[if_pos JR]
   have hd:decide ((t:Int)=0)=true:=decide_eq_true JR
   (repeat(first|((repeat(revert hN;revert N;apply Pn.out));refine wk @hd ?_;(repeat(refine Pn.mk ?_;intro N hN)))|((try apply Or.inl);refine⟨_,aq.x (h1) (sd @hd),?_⟩;refine hN _ _ ?_;clear hN N)|((try apply Or.inl);refine⟨_,aq.x (h2) (sd @hd),?_⟩;refine hN _ _ ?_;clear hN N)|((try apply Or.inl);refine⟨_,aq.x (h3) (sd @hd),?_⟩;refine hN _ _ ?_;clear hN N)))
   exact iM (.inl rfl) (vs:=[.agg [.int .i64 0,.int .i64 0],.int .i64 3]) (sd @Nat.zero_add) (by simp only[eH,Hf,dZ,jx,aS,bm,dr,Option.map_some])
  ·rw[if_neg JR]
   have hd:decide ((t:Int)=0)=false:=decide_eq_false JR
   have h4:=Cv t (by omega) (by omega)
   (repeat(first|((repeat(revert hN;revert N;apply Pn.out));refine wk @hd ?_;(repeat(refine Pn.mk ?_;intro N hN)))|((try apply Or.inl);refine⟨_,aq.x (h1) (sd @hd),?_⟩;refine hN _ _ ?_;clear hN N)|((try apply Or.inl);refine⟨_,aq.x (h2) (sd @hd),?_⟩;refine hN _ _ ?_;clear hN N)|((try apply Or.inl);refine⟨_,aq.x (h3) (sd @hd),?_⟩;refine hN _ _ ?_;clear hN N)|((try apply Or.inl);refine⟨_,aq.x (h4) (sd @hd),?_⟩;refine hN _ _ ?_;clear hN N)))
   exact iM (.inl rfl) (vs:=[.agg [.int .i64 1,.int .i64 t],.int .i64 0]) (sd @Nat.zero_add) (by simp only[eH,Hf,dZ,jx,aS,bm,dr,Option.map_some])
 ·have hr:l7 s ws l=([],0,1):=by rw[l7,if_neg h0]
  have h11:qp s ws l=1:=by
   unfold qp at h0 ⊢
   split
   ·rename_i h;rw[if_pos h]at h0;exact absurd rfl h0
   ·rfl
  rw[Lr,hr]
  rw[h11]at h1
  rw[aD]at h1 ⊢
  (repeat(first|((repeat(revert hN;revert N;apply Pn.out));refine wk @Nat.zero_add ?_;(repeat(refine Pn.mk ?_;intro N hN)))|((try apply Or.inl);refine⟨_,aq.x (h1) (sd @Nat.zero_add),?_⟩;refine hN _ _ ?_;clear hN N)))
  exact iM (.inl rfl) (vs:=[.agg [.int .i64 0,.int .i64 0],.int .i64 1]) (sd @Nat.zero_add) (by simp[eH,Hf,dZ,jx,aS,bm,dr])
theorem CL (t:Nat) (h1:1<=t) (h2:t<=1000000000):aq Tryz.prog 159 [.int .i64 1,.int .i64 t] (.im [.agg [.int .i64 1,.int .i64 t],.int .i64 0]):=by
 refine aq.body eE rfl fun hl n0=>?_
 clear hl
 have h0:¬(t:Int)<0:=by omega
 have h3:¬(1000000000:Int)<(t:Int):=by omega
 have q4:=OM 1 t (by omega) h2
 rw[gcd_one]at q4
 rw[Int.natCast_one]at q4
 have q1:=gT 1 (-1000000000) 1000000000
 rw[gr (by omega)]at q1
 have wN:((1:Int).tdiv 1)=1:=rfl
 have zU:=Ea t
 have hz:¬(1:Int)=0:=by omega
 have w1:IntKind.i64.wrap 1=1:=bz (by omega)
 have w2:IntKind.i64.wrap (t:Int)=t:=bz (by omega)
 (repeat(first|((repeat(revert hN;revert N;apply Pn.out));refine wk (tw @h0 (tw @h3 (tw @wN (tw @zU (tw @hz (tw @w1 @w2)))))) ?_;(repeat(refine Pn.mk ?_;intro N hN)))|((try apply Or.inl);refine⟨_,lJ.x (q4) _,?_⟩;refine hN _ _ ?_;clear hN N)|((try apply Or.inl);refine⟨_,aq.x (q1) (sd (tw @h0 (tw @h3 (tw @wN (tw @zU (tw @hz (tw @w1 @w2))))))),?_⟩;refine hN _ _ ?_;clear hN N)))
 exact iM (.inl rfl) (vs:=[.agg [.int .i64 1,.int .i64 t],.int .i64 0]) (sd @Nat.zero_add) (by simp only[eH,dZ,jx,aS,bm,dr,Option.map_some])
theorem y8 (t:Nat) (h1:1<=t) (h2:t<=1000000000):aq Tryz.prog 87 [.int .i64 1,.int .i64 t] (.im [.agg [.int .i64 1,.int .i64 t],.int .i64 0]):=by
 refine aq.body eE rfl fun hl n0=>?_
 clear hl
 have q1:=gT 1 (-1000000000) 1000000000
 have q2:=gT t (-1000000000) 1000000000
 rw[gr (by omega)]at q1
 rw[gr (by omega)]at q2
 have q3:=CL t h1 h2
 have hz:decide ((t:Int)=0)=false:=decide_eq_false (by omega)
 (repeat(first|((repeat(revert hN;revert N;apply Pn.out));refine wk @hz ?_;(repeat(refine Pn.mk ?_;intro N hN)))|((try apply Or.inl);refine⟨_,aq.x (q1) (sd @hz),?_⟩;refine hN _ _ ?_;clear hN N)|((try apply Or.inl);refine⟨_,aq.x (q2) (sd @hz),?_⟩;refine hN _ _ ?_;clear hN N)|((try apply Or.inl);refine⟨_,aq.x (q3) (sd @hz),?_⟩;refine hN _ _ ?_;clear hN N)))
 exact iM (.inl rfl) (vs:=[.agg [.int .i64 1,.int .i64 t],.int .i64 0]) (sd @Nat.zero_add) (by simp only[eH,dZ,jx,aS,bm,dr,Option.map_some])
theorem Bo (s:aG) (ws:List Int) (l:List ad) (hn:fe s.az) (hm:rS s) (MS:ws.length<=1048576) (hl:l.length<=1048576):aq Tryz.prog 28 [.agg (aD s),.sl (ws.map aA),.agg [.sl (l.map ai)]] (.im [.agg (Hf (Lr s ws l).1),.int .i64 (Lr s ws l).2]):=by
 have h1:=(Eu s ws l hn hm MS hl).s
 have z6:=IH (s:=s) (ws:=ws) (l:=l)
 refine aq.body eE rfl fun kM n0=>?_
 clear kM
 rw[Lr]
 obtain⟨⟨L,T,c⟩,hR⟩:∃R,l7 s ws l=R:=⟨_,rfl⟩
 rw[hR]at h1 z6 ⊢
 (try dsimp only at h1 z6 ⊢)
 obtain⟨t,rfl⟩:∃t:Nat,T=t:=⟨T.toNat,by omega⟩
 have qP:=(AB (e:=aA) (L:=L)).cell.1
 have E9:=(AB (e:=aA) (L:=L)).cell.2
 unfold AV.cells at qP
 unfold AV.cell at E9
 generalize PZ aA L=w at h1 qP E9
 rw[aD]at h1 ⊢
 by_cases h0:c=0
 ·have hd:decide (c=0)=true:=decide_eq_true h0
  rw[if_pos h0]
  by_cases JR:(t:Int)=0
  ·rw[if_pos JR]
   have oM:decide ((t:Int)=0)=true:=decide_eq_true JR
   (repeat(first|((repeat(revert hN;revert N;apply Pn.out));refine wk (tw @hd (tw @oM (tw @qP @E9))) ?_;(repeat(refine Pn.mk ?_;intro N hN)))|((try apply Or.inl);refine⟨_,aq.x (h1) (sd (tw @hd (tw @oM (tw @qP @E9)))),?_⟩;refine hN _ _ ?_;clear hN N)))
   exact iM (.inl rfl) (vs:=[.agg [.int .i64 0,.int .i64 0],.int .i64 3]) (sd @Nat.zero_add) (by simp only[eH,Hf,dZ,jx,aS,bm,dr,Option.map_some])
  ·rw[if_neg JR]
   have oM:decide ((t:Int)=0)=false:=decide_eq_false JR
   have h4:=y8 t (by omega) (by omega)
   (repeat(first|((repeat(revert hN;revert N;apply Pn.out));refine wk (tw @hd (tw @oM (tw @qP @E9))) ?_;(repeat(refine Pn.mk ?_;intro N hN)))|((try apply Or.inl);refine⟨_,aq.x (h1) (sd (tw @hd (tw @oM (tw @qP @E9)))),?_⟩;refine hN _ _ ?_;clear hN N)|((try apply Or.inl);refine⟨_,aq.x (h4) (sd (tw @hd (tw @oM (tw @qP @E9)))),?_⟩;refine hN _ _ ?_;clear hN N)))
   exact iM (.inl rfl) (vs:=[.agg [.int .i64 1,.int .i64 t],.int .i64 0]) (sd @Nat.zero_add) (by simp only[eH,Hf,dZ,jx,aS,bm,dr,Option.map_some])
 ·have hd:decide (c=0)=false:=decide_eq_false h0
  rw[if_neg h0]
  (repeat(first|((repeat(revert hN;revert N;apply Pn.out));refine wk (tw @hd (tw @qP @E9)) ?_;(repeat(refine Pn.mk ?_;intro N hN)))|((try apply Or.inl);refine⟨_,aq.x (h1) (sd (tw @hd (tw @qP @E9))),?_⟩;refine hN _ _ ?_;clear hN N)))
  exact iM (.inl rfl) (vs:=[.agg [.int .i64 0,.int .i64 0],.int .i64 c]) (sd @Nat.zero_add) (by simp only[eH,Hf,dZ,jx,aS,bm,dr,Option.map_some])
theorem G4 (a b:Int):aq Tryz.prog 29 [.agg [.int .i64 a,.int .i64 b],.agg [.int .i64 a,.int .i64 b]] (.bool true):=by
 refine aq.body eE rfl fun hl n0=>?_
 clear hl
 have e1:decide (a=a)=true:=decide_eq_true rfl
 have e2:decide (b=b)=true:=decide_eq_true rfl
 (try((repeat(revert hN;revert N;apply Pn.out));refine wk (tw @e1 @e2) ?_;(repeat(refine Pn.mk ?_;intro N hN))))
 exact aL (b:=true) (.inl rfl) (sd @Nat.zero_add) rfl
theorem HL (Ow:aG->List Int->e7->(Int×Int)×Int)
  (PD:∀s ws a,fe s.az->rS s->ws.length<=1048576->a.ae.length<=1048576->aq Tryz.prog 27 [.agg (aD s),.sl (ws.map aA),.agg (bc a)] (.im [.agg (Hf (Ow s ws a).1),.int .i64 (Ow s ws a).2]))
  (Pk:∀s ws a,fe s.az->rS s->ws.length<=1048576->a.ae.length<=1048576->aq Tryz.prog 28 [.agg (aD s),.sl (ws.map aA),.agg (bc a)] (.im [.agg (Hf (Ow s ws a).1),.int .i64 (Ow s ws a).2]))
  (s:aG) (ws:List Int) (a:e7) (hn:fe s.az):aq Tryz.prog 4 [.agg (aD s),.sl (ws.map aA),.agg (bc a)] (.bool true):=by
 refine aq.body eE rfl fun hl n0=>?_
 clear hl
 have gm:(ws.map aA).length=ws.length:=by simp
 by_cases hb:(1048576:Int)<(ws.length:Int)
 ·(try((repeat(revert hN;revert N;apply Pn.out));refine wk (tw @aD.eq_1 (tw @bc.eq_1 (tw @gm @hb))) ?_;(repeat(refine Pn.mk ?_;intro N hN))))
  exact aL (b:=true) (.inl rfl) (sd @Nat.zero_add) rfl
 have h1:=C8 s 1048576 (by omega) (by omega) hn
 by_cases hf:(yP s:Int)<=1048576
 ·rw[gY hf]at h1
  have jo:¬(1048576:Int)-(yP s:Int)<0:=by omega
  have h2:=qE a (1048576-yP s) (by omega) (by omega)
  by_cases hg:(a.ae.length:Int)<=1048576-yP s
  ·rw[gY hg]at h2
   have wG:¬(1048576:Int)-(yP s:Int)-(a.ae.length:Int)<0:=by omega
   have sm:=FV (s:=s) (by omega)
   have am:a.ae.length<=1048576:=by omega
   have wm:ws.length<=1048576:=by omega
   have t1:=Db s sm
   have t2:=qG a am
   have t3:=AR ws wm
   have r1:=PD s ws a hn sm wm am
   have r2:=Pk s ws a hn sm wm am
   have q1:=BM s
   have q2:=xE a
   have q4:=zz ws ws
   rw[decide_eq_true rfl]at q4
   obtain⟨⟨⟨x,y⟩,c⟩,hRe⟩:∃R,Ow s ws a=R:=⟨_,rfl⟩
   rw[hRe]at r1 r2
   (try dsimp only at r1 r2)
   rw[Hf]at r1 r2
   have q3:=G4 x y
   have e2:decide (c=c)=true:=by simp
   rw[aD]at h1 t1 r1 r2 q1
   rw[bc]at h2 t2 r1 r2 q2
   (repeat(first|((repeat(revert hN;revert N;apply Pn.out));refine wk (tw @aD.eq_1 (tw @bc.eq_1 (tw @gm (tw @hb (tw @jo (tw @wG @e2)))))) ?_;(repeat(refine Pn.mk ?_;intro N hN)))|((try apply Or.inl);refine⟨_,aq.x (h1) (sd (tw @aD.eq_1 (tw @bc.eq_1 (tw @gm (tw @hb (tw @jo (tw @wG @e2))))))),?_⟩;refine hN _ _ ?_;clear hN N)|((try apply Or.inl);refine⟨_,aq.x (h2) (sd (tw @aD.eq_1 (tw @bc.eq_1 (tw @gm (tw @hb (tw @jo (tw @wG @e2))))))),?_⟩;refine hN _ _ ?_;clear hN N)|((try apply Or.inl);refine⟨_,lJ.x (t1) _,?_⟩;refine hN _ _ ?_;clear hN N)|((try apply Or.inl);refine⟨_,lJ.x (t2) _,?_⟩;refine hN _ _ ?_;clear hN N)|((try apply Or.inl);refine⟨_,lJ.x (t3) _,?_⟩;refine hN _ _ ?_;clear hN N)|((try apply Or.inl);refine⟨_,aq.x (r1) (sd (tw @aD.eq_1 (tw @bc.eq_1 (tw @gm (tw @hb (tw @jo (tw @wG @e2))))))),?_⟩;refine hN _ _ ?_;clear hN N)|((try apply Or.inl);refine⟨_,aq.x (r2) (sd (tw @aD.eq_1 (tw @bc.eq_1 (tw @gm (tw @hb (tw @jo (tw @wG @e2))))))),?_⟩;refine hN _ _ ?_;clear hN N)|((try apply Or.inl);refine⟨_,aq.x (q3) (sd (tw @aD.eq_1 (tw @bc.eq_1 (tw @gm (tw @hb (tw @jo (tw @wG @e2))))))),?_⟩;refine hN _ _ ?_;clear hN N)|((try apply Or.inl);refine⟨_,aq.x (q1) (sd (tw @aD.eq_1 (tw @bc.eq_1 (tw @gm (tw @hb (tw @jo (tw @wG @e2))))))),?_⟩;refine hN _ _ ?_;clear hN N)|((try apply Or.inl);refine⟨_,aq.x (q2) (sd (tw @aD.eq_1 (tw @bc.eq_1 (tw @gm (tw @hb (tw @jo (tw @wG @e2))))))),?_⟩;refine hN _ _ ?_;clear hN N)|((try apply Or.inl);refine⟨_,aq.x (q4) (sd (tw @aD.eq_1 (tw @bc.eq_1 (tw @gm (tw @hb (tw @jo (tw @wG @e2))))))),?_⟩;refine hN _ _ ?_;clear hN N)))
   exact aL (b:=true) (.inl rfl) (sd @Nat.zero_add) rfl
  ·rw[ik hg]at h2
   rw[aD]at h1
   rw[bc]at h2
   (repeat(first|((repeat(revert hN;revert N;apply Pn.out));refine wk (tw @aD.eq_1 (tw @bc.eq_1 (tw @gm (tw @hb @jo)))) ?_;(repeat(refine Pn.mk ?_;intro N hN)))|((try apply Or.inl);refine⟨_,aq.x (h1) (sd (tw @aD.eq_1 (tw @bc.eq_1 (tw @gm (tw @hb @jo))))),?_⟩;refine hN _ _ ?_;clear hN N)|((try apply Or.inl);refine⟨_,aq.x (h2) (sd (tw @aD.eq_1 (tw @bc.eq_1 (tw @gm (tw @hb @jo))))),?_⟩;refine hN _ _ ?_;clear hN N)))
   exact aL (b:=true) (.inl rfl) (sd @Nat.zero_add) rfl
 ·rw[ik hf]at h1
  rw[aD]at h1
  (repeat(first|((repeat(revert hN;revert N;apply Pn.out));refine wk (tw @aD.eq_1 (tw @bc.eq_1 (tw @gm @hb))) ?_;(repeat(refine Pn.mk ?_;intro N hN)))|((try apply Or.inl);refine⟨_,aq.x (h1) (sd (tw @aD.eq_1 (tw @bc.eq_1 (tw @gm @hb)))),?_⟩;refine hN _ _ ?_;clear hN N)))
  exact aL (b:=true) (.inl rfl) (sd @Nat.zero_add) rfl
end Go.Proofs.YtgoljkjaameagaaGreat.V

namespace Go.Proofs.YtgoljkjaameagaaGreat
open Go.ChangeShapes Go.WideShapes Go.ChangeAt Go.RowKit Go.Deep
section
variable {H:Type} {enc:TypeId×Value->H} {P:Program} {w:World}
theorem lP.PW {α:Type} {rep:World->List Nat->List Value->α->Prop} {sz:Nat} {w:World} {b o len cap:Nat} (nq:Nat->List Value) (fs:Nat->List Nat) (ds:Nat->α) (hc:len<=cap) (hm:cap<=maxLen)
  (hl:∀i,i<len->(nq i).length=sz) (hr:∀i,i<len->rep w (fs i) (nq i) (ds i)) (yW:∀i,i<len->∀j u,(nq i)[j]? =some u->w.cell? ⟨b,o+(i*sz+j),none⟩=some u):
  lP rep sz w ([b]++((List.range len).map fs).flatten) (.slice (some ⟨b,o,none⟩) len cap) ((List.range len).map ds):=by
 refine⟨(List.range len).map nq,(List.range len).map fs,[b],rfl,⟨some ⟨b,o,none⟩,cap,by simp,by simpa using hc,hm,.inr ⟨b,o,rfl,rfl,fun j u hj=>?_⟩⟩,by simp,by simp,fun i cs f d h1 h2 h3=>?_⟩
 ·have hlen:∀cs∈(List.range len).map nq,cs.length=sz:=fun cs dp=>by
   obtain⟨i,hi,rfl⟩:=List.mem_map.1 dp
   exact hl i (List.mem_range.1 hi)
  have gq:=(List.getElem?_eq_some_iff.1 hj).1
  have E7:((List.range len).map nq).flatten.length=len*sz:=by
   rw[List.length_flatten,List.map_map]
   have:∀(l:List Nat),(∀i∈l,i<len)->(l.map (List.length∘nq)).sum=l.length*sz:=by
    intro l
    induction l with
    |nil=>intro _;simp
    |cons a l ih=>intro h;rw[List.map_cons,List.sum_cons,ih fun i hi=>h i (List.mem_cons_of_mem _ hi)];simp only[Function.comp,hl a (h a (by simp)),List.length_cons,Nat.add_mul];omega
   rw[this _ fun i hi=>List.mem_range.1 hi,List.length_range]
  rw[E7]at gq
  have Q4:0<sz:=by
   rcases Nat.eq_zero_or_pos sz with h|h
   ·subst h;simp at gq
   ·exact h
  have hi:j / sz<len:=(Nat.div_lt_iff_lt_mul Q4).2 gq
  have N1:j % sz<sz:=Nat.mod_lt _ Q4
  have JH:j=(j / sz)*sz+j % sz:=by rw[Nat.mul_comm];exact(Nat.div_add_mod j sz).symm
  rw[JH,rZ hlen (i:=j / sz) (cs:=nq (j / sz)) (by simp[hi]) N1]at hj
  rw[JH]
  have:=yW (j / sz) hi (j % sz) u hj
  rw[<-JH]at this ⊢
  exact this
 ·have hi:i<len:=by
   have:=(List.getElem?_eq_some_iff.1 h1).1
   simpa using this
  simp[hi]at h1 h2 h3
  subst h1 h2 h3
  exact⟨hr i hi,hl i hi⟩
theorem jN (b o k:Nat):(⟨b,o,none⟩:Addr).add k=⟨b,o+k,none⟩:=by
 unfold Addr.add;split
 ·rename_i h;subst h;rfl
 ·rfl
theorem oj {α:Type} {rep:World->List Nat->List Value->α->Prop} {Q:α->Prop} {t e:TypeId} {sz fuel:Nat} {cs:List Value} {x:DataW H×List MemPlace} (ht:P.underlying t=some (.slice e)) (hC:P.cellsOf e=sz) (Q4:0<sz)
  (h:DataW.trod enc P w 0 (fun _=>true) true fuel t cs=some x) (hel:∀n oL y,oL.length=sz->DataW.trod enc P w 0 (fun _=>true) true n e oL=some y->∃f d,fh f 0 w.heap.size/\rep w f oL d/\Q d):
  ∃A n c f xs,cs=[.slice A n c]/\fh f 0 w.heap.size/\lP rep sz w f (.slice A n c) xs/\∀d∈xs,Q d:=by
 rcases open_slice ht h with⟨rfl,_⟩|⟨a,len,cap,m,n,D,Pl,rfl,_,hl,hm,JL,_,hi⟩
 ·exact⟨none,0,0,[],[],rfl,fh.nil _ _,lP.nil _ _ _,fun d h=>by cases h⟩
 rw[hC]at hi
 simp only[if_true]at JL
 by_cases h0:len=0
 ·subst h0
  exact⟨some a,0,cap,[],[],rfl,fh.nil _ _,⟨[],[],[],rfl,⟨some a,cap,rfl,Nat.zero_le _,hm,.inl ⟨rfl,rfl⟩⟩,rfl,rfl,fun i cs f d hc=>by simp at hc⟩,fun d h=>by cases h⟩
 obtain⟨b,o,sp⟩:=a
 have cell0:∃v,w.cell? ⟨b,o,sp⟩=some v:=by
  obtain⟨oL,hc,_⟩:=hi 0 (by omega)
  obtain⟨_,oB,yW⟩:=World.cells?_some hc
  refine⟨oL[0]'(by omega),?_⟩
  have:=yW 0 Q4
  rw[List.getElem?_eq_getElem (by omega)]at this
  simpa[Addr.add]using this
 obtain⟨v0,pq⟩:=cell0
 have hb:b<w.heap.size:=World.block_lt_of_cell? w _ pq
 have ML:sp=none:=by
  unfold World.cell? at pq
  split at pq
  ·split at pq
   ·cases pq
   ·rename_i h;simpa using h
  ·cases pq
 subst ML
 have key:∀i,i<len->∃oL f d,oL.length=sz/\fh f 0 w.heap.size/\rep w f oL d/\Q d/\∀j u,oL[j]? =some u->w.cell? ⟨b,o+(i*sz+j),none⟩=some u:=fun i mC=>by
  obtain⟨oL,hc,htr⟩:=hi i (by omega)
  obtain⟨_,oB,yW⟩:=World.cells?_some hc
  obtain⟨f,d,h1,h2,h3⟩:=hel n oL _ oB htr
  refine⟨oL,f,d,oB,h1,h2,h3,fun j u hj=>?_⟩
  have gq:=(List.getElem?_eq_some_iff.1 hj).1
  have:=yW j (by omega)
  rw[hj]at this
  rw[<-this,Go.Deep.add_add,jN]
 have:Nonempty α:=by
  obtain⟨_,_,d,_⟩:=key 0 (by omega)
  exact⟨d⟩
 let cf:Nat->List Value:=fun i=>if hi:i<len then(key i hi).choose else[]
 let ff:Nat->List Nat:=fun i=>if hi:i<len then(key i hi).choose_spec.choose else[]
 let df:Nat->α:=fun i=>if hi:i<len then(key i hi).choose_spec.choose_spec.choose else Classical.choice this
 have dy:∀i,i<len->(cf i).length=sz/\fh (ff i) 0 w.heap.size/\rep w (ff i) (cf i) (df i)/\Q (df i)/\∀j u,(cf i)[j]? =some u->w.cell? ⟨b,o+(i*sz+j),none⟩=some u:=fun i hi=>by
  have:=(key i hi).choose_spec.choose_spec.choose_spec
  simp only[cf,ff,df,dif_pos hi]
  exact this
 refine⟨some ⟨b,o,none⟩,len,cap,_,(List.range len).map df,rfl,?_,lP.PW cf ff df hl hm (fun i hi=>(dy i hi).1) (fun i hi=>(dy i hi).2.2.1) (fun i hi=>(dy i hi).2.2.2.2),fun d hd=>?_⟩
 ·intro x hx
  rcases List.mem_append.1 hx with hx|hx
  ·simp at hx;subst hx;exact⟨Nat.zero_le _,hb⟩
  ·obtain⟨l,Ch,Od⟩:=List.mem_flatten.1 hx
   obtain⟨i,hi,rfl⟩:=List.mem_map.1 Ch
   exact(dy i (List.mem_range.1 hi)).2.1 x Od
 ·obtain⟨i,hi,rfl⟩:=List.mem_map.1 hd
  exact(dy i (List.mem_range.1 hi)).2.2.2.1
end
section
variable {H:Type} {enc:TypeId×Value->H} {w:World} {fuel:Nat} {cs:List Value} {x:DataW H×List MemPlace}
abbrev TT (enc:TypeId×Value->H) (w:World) (fuel t:Nat) (cs:List Value) (x:DataW H×List MemPlace):Prop:=DataW.trod enc Tryz.prog w 0 (fun _=>true) true fuel t cs=some x
theorem H0 (h:TT enc w fuel 31 cs x):∃A n c f xs,cs=[.slice A n c]/\fh f 0 w.heap.size/\pP w f (.slice A n c) xs:=by
 obtain⟨A,n,c,f,xs,h1,h2,h3,_⟩:=oj (rep:=Dm) (Q:=fun _=>True) Tryz.underlying31 (sz:=1) (by kernel_rfl) (by omega) h fun n oL y hl hy=>by
  obtain⟨b,rfl,_⟩:=DataW.trod_int Tryz.underlying2 hy
  exact⟨[],b,fh.nil _ _,⟨rfl,rfl⟩,trivial⟩
 exact⟨A,n,c,f,xs,h1,h2,h3⟩
theorem l5 {t:TypeId} {fs:Array Field} (ht:Tryz.prog.underlying t=some (.struct fs)) (h:TT enc w fuel t cs x):cs.length=Tryz.prog.cellsOf t/\∃n,∀(i:Nat) (f:Field),fs[i]? =some f->∃y,TT enc w n f.type ((cs.drop f.offset).take (Tryz.prog.cellsOf f.type)) y:=by
 obtain⟨xs,n,_,_,hl,Od,hf⟩:=DataW.trod_struct ht h
 refine⟨hl,n,fun i f hi=>?_⟩
 have mC:i<xs.length:=by rw[Od];exact(Array.getElem?_eq_some_iff.1 hi).1
 exact⟨xs[i],(hf i f hi).trans (List.getElem?_eq_getElem mC)⟩
theorem PR {l:List Value} (h:l.length=2):∃a b,l=[a,b]:=by
 match l,h with
 |[a,b],_=>exact⟨a,b,rfl⟩
theorem Tf {l:List Value} (h:l.length=3):∃a b c,l=[a,b,c]:=by
 match l,h with
 |[a,b,c],_=>exact⟨a,b,c,rfl⟩
theorem Te {l:List Value} (h:l.length=1):∃a,l=[a]:=by
 match l,h with
 |[a],_=>exact⟨a,rfl⟩
theorem Tg {l:List Value} (h:l.length=4):∃a b c d,l=[a,b,c,d]:=by
 match l,h with
 |[a,b,c,d],_=>exact⟨a,b,c,d,rfl⟩
theorem Kj (h:TT enc w fuel 22 cs x):∃A n c f xs,cs=[.slice A n c]/\fh f 0 w.heap.size/\pO w f (.slice A n c) xs/\∀d∈xs,d.aE.size<=9223372036854775807:=by
 exact oj (rep:=GB) (Q:=fun d=>d.aE.size<=9223372036854775807) Tryz.underlying22 (sz:=2) (by kernel_rfl) (by omega) h fun n oL y hl hy=>by
  obtain⟨_,m,hf⟩:=l5 Tryz.underlying247 hy
  obtain⟨a,b,rfl⟩:=PR hl
  ·skip
   obtain⟨y0,h0⟩:=hf 0 _ rfl
   obtain⟨y1,h1⟩:=hf 1 _ rfl
   rw[show Tryz.prog.cellsOf _=1 from by kernel_rfl]at h0 h1
   obtain⟨p,e0,_,ws⟩:=DataW.trod_string Tryz.underlying9 h0
   obtain⟨q,e1,_⟩:=DataW.trod_int Tryz.underlying2 h1
   simp at e0 e1
   subst e0 e1
   exact⟨[],⟨p,q⟩,fh.nil _ _,⟨rfl,rfl⟩,by simpa[maxLen]using ws⟩
theorem Kk (h:TT enc w fuel 23 cs x):∃A n c f xs,cs=[.slice A n c]/\fh f 0 w.heap.size/\pQ w f (.slice A n c) xs/\∀d∈xs,d.aE.size<=9223372036854775807:=by
 exact oj (rep:=GC) (Q:=fun d=>d.aE.size<=9223372036854775807) Tryz.underlying23 (sz:=2) (by kernel_rfl) (by omega) h fun n oL y hl hy=>by
  obtain⟨_,m,hf⟩:=l5 Tryz.underlying250 hy
  obtain⟨a,b,rfl⟩:=PR hl
  ·skip
   obtain⟨y0,h0⟩:=hf 0 _ rfl
   obtain⟨y1,h1⟩:=hf 1 _ rfl
   rw[show Tryz.prog.cellsOf _=1 from by kernel_rfl]at h0 h1
   obtain⟨p,e0,_,ws⟩:=DataW.trod_string Tryz.underlying9 h0
   obtain⟨A1,n1,c1,f1,Qf,e1,k1,s1⟩:=H0 h1
   simp at e0 e1
   subst e0 e1
   exact⟨_,⟨p,Qf⟩,k1,⟨_,f1,rfl,rfl,s1⟩,by simpa[maxLen]using ws⟩
theorem FD (h:TT enc w fuel 26 cs x):∃A n c f xs,cs=[.slice A n c]/\fh f 0 w.heap.size/\iG w f (.slice A n c) xs:=by
 obtain⟨A,n,c,f,xs,h1,h2,h3,_⟩:=oj (rep:=zb) (Q:=fun _=>True) Tryz.underlying26 (sz:=3) (by kernel_rfl) (by omega) h fun n oL y hl hy=>by
  obtain⟨_,m,hf⟩:=l5 Tryz.underlying208 hy
  obtain⟨a,b,c,rfl⟩:=Tf hl
  ·skip
   obtain⟨y0,h0⟩:=hf 0 _ rfl
   obtain⟨y1,h1⟩:=hf 1 _ rfl
   rw[show Tryz.prog.cellsOf _=2 from by kernel_rfl]at h0
   rw[show Tryz.prog.cellsOf _=1 from by kernel_rfl]at h1
   obtain⟨_,m2,E5⟩:=l5 Tryz.underlying163 h0
   obtain⟨z0,g0⟩:=E5 0 _ rfl
   obtain⟨z1,g1⟩:=E5 1 _ rfl
   rw[show Tryz.prog.cellsOf _=1 from by kernel_rfl]at g0 g1
   obtain⟨px,e0,_⟩:=DataW.trod_int Tryz.underlying2 g0
   obtain⟨py,e1,_⟩:=DataW.trod_int Tryz.underlying2 g1
   obtain⟨ti,e2,_⟩:=DataW.trod_int Tryz.underlying2 h1
   simp at e0 e1 e2
   subst e0 e1 e2
   exact⟨[],⟨⟨px,py⟩,ti⟩,fh.nil _ _,⟨rfl,rfl⟩,trivial⟩
 exact⟨A,n,c,f,xs,h1,h2,h3⟩
theorem uq (h:TT enc w fuel 28 cs x):∃A n c f,∃d:e7,cs=[.slice A n c]/\fh f 0 w.heap.size/\iG w f (.slice A n c) d.ae:=by
 obtain⟨hl,m,hf⟩:=l5 Tryz.underlying28 h
 rw[show Tryz.prog.cellsOf _=1 from by kernel_rfl]at hl
 obtain⟨a,rfl⟩:=Te hl
 ·skip
  obtain⟨y0,h0⟩:=hf 0 _ rfl
  rw[show Tryz.prog.cellsOf _=1 from by kernel_rfl]at h0
  obtain⟨A1,n1,c1,f1,Qf,e1,k1,s1⟩:=FD h0
  simp at e1
  subst e1
  exact⟨A1,n1,c1,f1,⟨Qf⟩,rfl,k1,s1⟩
theorem H3 (h:TT enc w fuel 30 cs x):∃A0 n0 c0 f0 A1 n1 c1 f1 A2 n2 c2 f2,∃d:aG,cs=[.slice A0 n0 c0,.slice A1 n1 c1,.slice A2 n2 c2,.int .i64 d.aw]/\fh f0 0 w.heap.size/\pO w f0 (.slice A0 n0 c0) d.az.aC/\fh f1 0 w.heap.size/\pQ w f1 (.slice A1 n1 c1) d.az.ae/\fh f2 0 w.heap.size/\iG w f2 (.slice A2 n2 c2) d.cr.ae/\(∀g∈d.az.aC,g.aE.size<=9223372036854775807)/\∀t∈d.az.ae,t.aE.size<=9223372036854775807:=by
 obtain⟨hl,m,hf⟩:=l5 Tryz.underlying30 h
 rw[show Tryz.prog.cellsOf _=4 from by kernel_rfl]at hl
 obtain⟨a,b,c,d,rfl⟩:=Tg hl
 ·skip
  obtain⟨y0,h0⟩:=hf 0 _ rfl
  obtain⟨y1,h1⟩:=hf 1 _ rfl
  obtain⟨y2,h2⟩:=hf 2 _ rfl
  rw[show Tryz.prog.cellsOf _=2 from by kernel_rfl]at h0
  rw[show Tryz.prog.cellsOf _=1 from by kernel_rfl]at h1 h2
  obtain⟨_,m2,E5⟩:=l5 Tryz.underlying25 h0
  obtain⟨z0,g0⟩:=E5 0 _ rfl
  obtain⟨z1,g1⟩:=E5 1 _ rfl
  rw[show Tryz.prog.cellsOf _=1 from by kernel_rfl]at g0 g1
  obtain⟨A0,n0,c0,f0,xs0,e0,k0,s0,o0⟩:=Kj g0
  obtain⟨A1,n1,c1,f1,Qf,e1,k1,s1,o1⟩:=Kk g1
  obtain⟨A2,n2,c2,f2,d2,e2,k2,s2⟩:=uq h1
  obtain⟨t,e3,_⟩:=DataW.trod_int Tryz.underlying2 h2
  simp at e0 e1 e2 e3
  subst e0 e1 e2 e3
  exact⟨A0,n0,c0,f0,A1,n1,c1,f1,A2,n2,c2,f2,⟨⟨xs0,Qf⟩,d2,t⟩,rfl,k0,s0,k1,s1,k2,s2,o0,o1⟩
end
end Go.Proofs.YtgoljkjaameagaaGreat

namespace Go.Proofs.YtgoljkjaameagaaGreat
open Go.ChangeShapes Go.WideShapes Go.ChangeAt Go.RowKit V
theorem P3:ownKnob Tryz.prog.godebug=none:=by kernel_rfl
theorem CA:laidOutB Tryz.prog=true:=by kernel_rfl
theorem KC (s:aG) (ws:List Int) (a:e7) (hn:fe s.az):aq Tryz.prog 4 [.agg (aD s),.sl (ws.map aA),.agg (bc a)] (.bool true):=
 HL (fun s ws a=>Lr s ws a.ae) (fun s ws a hn hm hw _=>Bp s ws a.ae hn hm.s.g hm.s.t hw) (fun s ws a hn hm hw hl=>Bo s ws a.ae hn hm hw hl) s ws a hn
theorem C4 (os:Os) (started:os.Started) (H:Type) (enc:TypeId×Value->H):
  ReturnsInHanded {} Tryz.checked os 4 .any (Rows.fnExactStepTimeSpec.pre6 enc Tryz.prog Tryz.f4 Rows.fnExactStepTimeRow.domain false) (Rows.fnExactStepTimeSpec.post enc Tryz.prog Tryz.f4 false true false false):=by
 refine returnsInHanded_of_change (C:=Tryz.checked) P3 started (by kernel_rfl) Tryz.func4
  (ChangeSpec.witness6 (enc:=enc) (C:=Tryz.checked) false ⟨#[], #[.agg #[.slice none 0 0,.slice none 0 0,.slice none 0 0,.int .i64 0],.slice none 0 0,.agg #[.slice none 0 0]],[]⟩ 8 (by kernel_rfl) (by kernel_rfl) (by kernel_rfl) (by kernel_rfl)) ?_
 intro W base args ds gs before Lh hW hcnd _
 have qg:∀(j:Nat) t v,Tryz.f4.params[j]? =some t->args[j]? =some v->Value.okWide Tryz.prog W .any base t v:=Lh
 have hW':=hW
 obtain⟨p,q,hA0,hV,rfl,A9,nB⟩:=hW
 have hA:DataW.TrodAll enc Tryz.prog W 0 (fun _=>true) true Tryz.f4.params.toList args.toList ds p:=hA0
 rw[Tryz.params4]at hA qg
 obtain⟨v0,Tl,d0,ds0,p0,q0,mB,rfl,rfl,h0,r0⟩:=trodAll_cons hA
 obtain⟨v1,vs1,d1,ds1,p1,q1,rfl,rfl,rfl,h1,r1⟩:=trodAll_cons r0
 obtain⟨v2,vs2,d2,ds2,p2,q2,rfl,rfl,rfl,h2,r2⟩:=trodAll_cons r1
 obtain⟨rfl,rfl,rfl⟩:=trodAll_nil r2
 obtain rfl:args= #[v0,v1,v2]:=by cases args;simp_all
 obtain⟨rfl,rfl⟩:=trodVars_none hV
 obtain⟨NR,rfl,_⟩:=okWide_struct Tryz.underlying30 (qg 0 30 v0 rfl rfl)
 obtain⟨A4,n4,c4,rfl⟩:=okWide_slice Tryz.underlying31 (qg 1 31 v1 rfl rfl)
 obtain⟨RH,rfl,_⟩:=okWide_struct Tryz.underlying28 (qg 2 28 v2 rfl rfl)
 have k0:=h0
 have k1:=h1
 have k2:=h2
 have lt0:∀x∈p0,x.block<W.heap.size:=by obtain⟨m,hm⟩:=k0;exact DataW.trod_lt m _ _ _ hm
 have lt1:∀x∈p1,x.block<W.heap.size:=by obtain⟨m,hm⟩:=k1;exact DataW.trod_lt m _ _ _ hm
 have lt2:∀x∈p2,x.block<W.heap.size:=by obtain⟨m,hm⟩:=k2;exact DataW.trod_lt m _ _ _ hm
 obtain⟨A0,n0,c0,f0,A1,n1,c1,f1,A2,n2,c2,f2,s,dp,w0,s0,w1,s1,w2,s2,o0,o1⟩:∃A0 n0 c0 f0 A1 n1 c1 f1 A2 n2 c2 f2,∃d:aG,(Value.agg NR).cells.toList=[.slice A0 n0 c0,.slice A1 n1 c1,.slice A2 n2 c2,.int .i64 d.aw]/\fh f0 0 W.heap.size/\pO W f0 (.slice A0 n0 c0) d.az.aC/\fh f1 0 W.heap.size/\pQ W f1 (.slice A1 n1 c1) d.az.ae/\fh f2 0 W.heap.size/\iG W f2 (.slice A2 n2 c2) d.cr.ae/\(∀g∈d.az.aC,g.aE.size<=9223372036854775807)/\∀t∈d.az.ae,t.aE.size<=9223372036854775807:=by
  obtain⟨fuel,hf⟩:=h0
  exact H3 hf
 obtain⟨f4,ws,w4,s4⟩:∃f,∃d:List Int,fh f 0 W.heap.size/\pP W f (.slice A4 n4 c4) d:=by
  obtain⟨fuel,hf⟩:=h1
  obtain⟨A,n,c,f,xs,e,w,z⟩:=H0 hf
  simp[Value.cells]at e
  obtain⟨rfl,rfl,rfl⟩:=e
  exact⟨f,xs,w,z⟩
 obtain⟨A3,n3,c3,f3,a,O5,w3,s3⟩:∃A n c f,∃d:e7,(Value.agg RH).cells.toList=[.slice A n c]/\fh f 0 W.heap.size/\iG W f (.slice A n c) d.ae:=by
  obtain⟨fuel,hf⟩:=h2
  exact uq hf
 obtain rfl:NR= #[.slice A0 n0 c0,.slice A1 n1 c1,.slice A2 n2 c2,.int .i64 s.aw]:=by
  cases NR;simp[Value.cells]at dp;subst dp;rfl
 obtain rfl:RH= #[.slice A3 n3 c3]:=by
  cases RH;simp[Value.cells]at O5;subst O5;rfl
 clear hA0 Lh
 have gK:fb Tryz.prog W (fun b=>b<W.heap.size) (fun _=>none) [.agg (aD s),.sl (ws.map aA),.agg (bc a)] #[.agg #[.slice A0 n0 c0,.slice A1 n1 c1,.slice A2 n2 c2,.int .i64 s.aw],.slice A4 n4 c4,.agg #[.slice A3 n3 c3]]:=by
  have h:=kz (Bs s0 (fun b hb=>(w0 b hb).2) s1 (fun b hb=>(w1 b hb).2) s2 (fun b hb=>(w2 b hb).2)) (kz (tg s4 (fun b hb=>(w4 b hb).2)) (kz (xk s3 (fun b hb=>(w3 b hb).2)) (⟨rfl,fun j b hj=>by cases j<;>cases hj⟩:fb Tryz.prog W (fun b=>b<W.heap.size) (fun _=>none) [] #[])))
  simpa using h
 have iI:=MZ mixed (KC s ws a ⟨o0,o1⟩) gK
 clear s0 s1 s2 s3 s4 w0 w1 w2 w3 w4 gK
 refine(iI.mono fun e W' ⟨he,bel⟩=>?_)
 subst he
 exact⟨_,rfl,_,_,_,[],_,[],hW',trodAll_mk1 (shut_bool Tryz.underlying4 _),(trodAll_cons_mk (Below.trod CA (by kernel_rfl) (of_decide_eq_true (by kernel_rfl)) k0 bel lt0) (trodAll_cons_mk (Below.trod CA (by kernel_rfl) (of_decide_eq_true (by kernel_rfl)) k1 bel lt1) (trodAll_cons_mk (Below.trod CA (by kernel_rfl) (of_decide_eq_true (by kernel_rfl)) k2 bel lt2) trodAll_mk0))),rfl,bel.frame _,fun h=>by cases h⟩
end Go.Proofs.YtgoljkjaameagaaGreat

namespace Go.Proofs.YtgoljkjaameagaaGreat
open Go.ChangeShapes Go.WideShapes Go.ChangeAt Go.RowKit
theorem syN:Tryz.pinned.checked.prog.funcNamed Rows.fnExactStepTimeRow.func=some 4:=by kernel_rfl
theorem syJ:joinedFacts Tryz.pinned.checked.prog 4 Tryz.f4 Rows.fnExactStepTimeSpec Rows.fnExactStepTimeRow=true:=by
 unfold joinedFacts
 repeat(with_reducible refine Bool.and_eq_true_iff.2 ⟨?_,by as_aux_lemma=>kernel_rfl⟩)
 as_aux_lemma=>kernel_rfl
theorem syI:Tryz.f4.isInstance Tryz.pinned.checked.prog Rows.fnExactStepTimeRow.origin Rows.fnExactStepTimeRow.targs:=of_decide_eq_true (by kernel_rfl)
theorem syW:Tryz.f4.isWrapper Tryz.pinned.checked.prog Rows.fnExactStepTimeRow.wrapper Rows.fnExactStepTimeRow.mainSum:=by
 unfold Func.isWrapper;first|(rw[if_pos (by decide+kernel)];kernel_rfl)|(rw[if_neg (by decide+kernel)];exact⟨rfl,rfl⟩)
theorem Is:Rows.fnExactStepTimeRow.holds Tryz.pinned (OpenSpec.ofChange Rows.fnExactStepTimeSpec):=
 OpenClaim.holds_of_wide 4 Tryz.f4 rfl rfl rfl rfl rfl rfl rfl ⟨rfl,rfl,rfl,rfl,rfl⟩ rfl rfl rfl rfl rfl syN Tryz.func4 syJ syI syW
  (fun os started H enc _=>C4 os started H enc)
theorem fnExactStepTime_proved:Rows.FnExactStepTimeSaid:=Is
end Go.Proofs.YtgoljkjaameagaaGreat
