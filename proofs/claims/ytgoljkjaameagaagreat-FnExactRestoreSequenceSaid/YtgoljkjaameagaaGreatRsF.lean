/- Networks by matrices: the first shortest way. -/
import Derived.Test.YtgoljkjaameagaaGreatRsE
import Derived.Test.YtgoljkjaameagaaGreatRsC
import Derived.RangeFuncCalls
import Derived.OrdersIn
import Derived.Test.YtgoljkjaameagaaGreatRsB
import Derived.Test.YtgoljkjaameagaaGreatChecked
import Derived.ProofKit
import Derived.Deep.Slices
import Derived.ChangeSame
import Derived.Test.YtgoljkjaameagaaGreatRows
import Derived.OpenShut
import Derived.ShutString
import Derived.ChangeOld
import Derived.Below
set_option linter.unusedVariables false
set_option linter.unusedSimpArgs false
set_option maxRecDepth 100000
set_option maxHeartbeats 16000000
namespace Go.Proofs.YtgoljkjaameagaaGreat.V
open Go.RowKit
attribute [local irreducible] dL wpOps gC Call
attribute [local go_sem] aO fM eS ga fZ cU upd cD K.av cR AV.cells AV.cell rowOf rowsOf part ld rowAt bt cw dG ei iu bK dm eB fY e6 dt ep di dh dV dW bU bd cZ bQ db da ek er eo cY ck dj ej bP aQ dd cJ iq br cN bV aZ dr bc dH AV.undef bF bJ dX eh dR dO cK eA eC cI ev eu dc de List.getD_cons_zero List.getD_cons_succ List.getD_nil List.all_cons List.all_nil Bool.and_true Bool.true_and Bool.and_self Bool.not_true Bool.not_false Option.map_some Option.map_none Option.bind_some Option.bind_none List.length_cons List.length_nil List.take_succ_cons List.take_zero List.take_nil List.drop_succ_cons List.drop_zero List.drop_nil List.head?_cons List.map_cons List.map_nil List.getElem?_cons_zero List.getElem?_cons_succ List.cons_append List.nil_append List.append_nil List.length_map List.set_cons_zero List.set_cons_succ Nat.reduceMul eq_self Int.toNat_natCast Int.natCast_nonneg and_self true_and and_true decide_true decide_false Bool.false_eq_true Nat.zero_add Nat.add_zero List.contains_cons List.contains_nil Bool.or_false Bool.false_or beq_self_eq_true Nat.reduceBEq ne_eq not_true_eq_false not_false_eq_true Id.mk.injEq false_and and_false Nat.reduceLT Int.reduceLE Int.reduceLT Int.reduceToNat Int.reduceNeg Int.reduceAdd Nat.le_refl List.length_append beq_true beq_false Bool.not_eq_eq_eq_not or_false false_or dP ai aq aI bh bE cz aY bl aV bf cW bH
theorem Su (cnt:Nat) (yn:1<=cnt) (hn:cnt<=1048576) (c f:Nat->Nat->Int) (x y:Nat) (hx:x<cnt) (hy:y<cnt):
  mE Tryz.prog 301 [.dn (lT cnt c f),.int .i64 x,.int .i64 y] fun r=>(r=.cC/\∃S:Nat->Bool,S x=true/\S y=false/\∀u v,u<cnt->v<cnt->S u=true->S v=false->¬f u v<c u v)∨∃p:List Nat,r=.sl (p.map eN)/\QO cnt c f x y p:=by
 refine mE.body eI rfl fun hl n0=>?_
 clear hl
 have lM:=xN c cnt
 have jP:(0:Int)<=(cnt:Int):=by omega
 have Dl:(x:Int)<(cnt:Int):=by omega
 have TA:(y:Int)<(cnt:Int):=by omega
 (try((repeat(revert hN;revert N;apply Pn.out));refine wk (tw @lT.eq_1 @lM) ?_;(repeat(refine Pn.mk ?_;intro N hN))))
 refine .inr (aJ _ _ _ _ _ (fun r σ1 hq=>?_) (Kg cnt yn hn (-1) ⟨301002000,n0+1+1⟩ _ (sd @Nat.zero_add) (by(try dsimp only);omega)))
 obtain⟨o,rfl,ho,L4,L5,jV⟩:=hq
 (try dsimp only at ho L4 L5 jV)
 refine hN _ _ ?_
 clear hN N
 have qt:=dv L5
 have qD:(cnt:Int)<=1048576:=by omega
 have Rj:qT<qT+cnt:=by omega
 have gQ:List.replicate cnt [AV.int .i64 (-1)]=ea (fun _=>-1) cnt:=by
  refine List.ext_getElem? fun i=>?_
  by_cases h:i<cnt
  ·rw[dS h,List.getElem?_replicate,if_pos h];rfl
  ·rw[List.getElem?_eq_none (by simp;omega),List.getElem?_eq_none (by rw[dF];omega)]
 rw[gQ]at ho
 have Cg:(ea (fun _=>-1) cnt).set x (bq (x:Int))=ea (fun v=>if v=x then(x:Int)else -1) cnt:=ly hx (if_pos rfl) fun v _ hv=>if_neg hv
 have hg0:=dS (f:=fun _=>-1) hx
 have tl0:=dF (fun _=>-1) cnt
 rw[bq]at Cg hg0
 (try((repeat(revert hN;revert N;apply Pn.out));refine wk (tw @lT.eq_1 (tw @lM (tw @jP (tw @qD @qt)))) ?_;(repeat(refine Pn.mk ?_;intro N hN))))
 refine KR ?_
 simp only[go_sem, ↓reduceIte,Nat.reduceEqDiff,Nat.reduceAdd,Nat.reduceSub,Nat.reduceLeDiff,reduceCtorEq,Rj]
 refine hN _ _ ?_
 clear hN N
 (try((repeat(revert hN;revert N;apply Pn.out));refine wk (tw @ho (tw @qt (tw @Cg (tw @hg0 (tw @tl0 @Dl))))) ?_;(repeat(refine Pn.mk ?_;intro N hN))))
 obtain⟨C,hC⟩:∃C:Id,C=⟨301003001,σ1.next+1⟩:=⟨_,rfl⟩
 have RG:=cH (a:=o) (b:=C) (by rw[hC];(try dsimp only);omega)
 have hCv:C.bW=σ1.next+1:=by rw[hC]
 refine aW (fun m env st=>∃(par:Nat->Int) (Q:List Nat) (i:Nat),m=cnt-i/\Bq cnt c f x par Q i/\st.get o=some ⟨true,1,ea par cnt⟩/\st.get C=some ⟨true,qT+cnt,(Q.drop i).map eN⟩/\σ1.next+1<st.next) cnt ⟨_,[x],0,rfl,Bq.start hx,sd @qt,by rw[hC];simp only[go_sem, ↓reduceIte,Nat.reduceEqDiff,Nat.reduceAdd,Nat.reduceSub,Nat.reduceLeDiff,reduceCtorEq,qt];rfl,by(try dsimp only);omega⟩ ?_
 rintro m env_b st_b ⟨par,Q,i,rfl,hB,bgo,bgC,bn⟩ bkp
 have b0:=bkp 0 (by kernel_rfl)
 have b1:=bkp 1 (by kernel_rfl)
 have b2:=bkp 2 (by kernel_rfl)
 have b7:=bkp 7 (by kernel_rfl)
 have b8:=bkp 8 (by kernel_rfl)
 have b9:=bkp 9 (by kernel_rfl)
 rw[<-hC]at b9
 simp only[go_sem, ↓reduceIte,Nat.reduceEqDiff,Nat.reduceAdd,Nat.reduceSub,Nat.reduceLeDiff,reduceCtorEq]at b0 b1 b2 b7 b8 b9
 clear bkp
 have hQn:=hB.len
 have lV:=hB.ile
 have Ta:((Q.drop i).map eN).length=Q.length-i:=by simp
 by_cases hi:i<Q.length
 ·have kF:(0:Int)<((Q.length-i:Nat):Int):=by omega
  have ta:Q.drop i=Q[i]::Q.drop (i+1):=List.drop_eq_getElem_cons hi
  obtain⟨u,hu⟩:∃u,u=Q[i]:=⟨_,rfl⟩
  have hun:u<cnt:=by rw[hu];exact hB.lt _ (List.getElem_mem hi)
  rw[<-hu]at ta
  (try((repeat(revert hN;revert N;apply Pn.out));refine wk (tw @b0 (tw @b1 (tw @b2 (tw @b7 (tw @b8 (tw @b9 (tw @bgC (tw @Ta @kF)))))))) ?_;(repeat(refine Pn.mk ?_;intro N hN))))
  refine KR ?_
  rw[ta,List.map_cons,show eN u=[.int .i64 (u:Int)]from rfl]at bgC
  simp only[go_sem, ↓reduceIte,Nat.reduceEqDiff,Nat.reduceAdd,Nat.reduceSub,Nat.reduceLeDiff,reduceCtorEq,b9,bgC]
  refine hN _ _ ?_
  clear hN N
  (try((repeat(revert hN;revert N;apply Pn.out));refine wk @b7 ?_;(repeat(refine Pn.mk ?_;intro N hN))))
  refine aW (fun m env st=>∃(v:Nat) (par':Nat->Int) (Q':List Nat),m=cnt-v/\v<=cnt/\env 36=.int .i64 (v:Int)/\Bq cnt c f x par' Q' i/\(∃h:i<Q'.length,Q'[i]=u)/\st.get o=some ⟨true,1,ea par' cnt⟩/\st.get C=some ⟨true,qT+cnt,(Q'.drop (i+1)).map eN⟩/\σ1.next+1<st.next/\∀w,w<v->f u w<c u w->0<=par' w) cnt ⟨0,par,Q,rfl,Nat.zero_le _,by(simp only[go_sem, ↓reduceIte,Nat.reduceEqDiff,Nat.reduceAdd,Nat.reduceSub,Nat.reduceLeDiff,reduceCtorEq])<;>rfl,hB,⟨hi,hu.symm⟩,sd (tw @RG @bgo),sd @RG,by(try dsimp only);omega,fun w hw=>absurd hw (Nat.not_lt_zero w)⟩ ?_
  rintro m env_c st_c ⟨v,par',Q',rfl,hvn,c36,dD,⟨rN,FO⟩,yT,cgC,cn,dE⟩ ckp
  have c0:=ckp 0 (by kernel_rfl)
  have c1:=ckp 1 (by kernel_rfl)
  have c2:=ckp 2 (by kernel_rfl)
  have c7:=ckp 7 (by kernel_rfl)
  have c8:=ckp 8 (by kernel_rfl)
  have c9:=ckp 9 (by kernel_rfl)
  have jF:=ckp 10 (by kernel_rfl)
  have N8:=ckp 35 (by kernel_rfl)
  simp only[go_sem, ↓reduceIte,Nat.reduceEqDiff,Nat.reduceAdd,Nat.reduceSub,Nat.reduceLeDiff,reduceCtorEq,b0,b1,b2,b7,b8,b9]at c0 c1 c2 c7 c8 c9 jF N8
  clear ckp
  have tl:=dF par' cnt
  by_cases hv:(v:Int)<(cnt:Int)
  ·have Ee:v<cnt:=by omega
   have ON:=dS (f:=par') Ee
   have jV:=Ol cnt c f u v hun Ee
   have hw:IntKind.i64.wrap ((v:Int)+1)=((v+1:Nat):Int):=aB (by omega)
   rw[bq]at ON
   rw[lT]at jV
   by_cases ki:par' v<0
   ·by_cases hr:f u v<c u v
    ·rw[decide_eq_true hr]at jV
     have eF:(ea par' cnt).set v (bq (u:Int))=ea (fun w=>if w=v then(u:Int)else par' w) cnt:=ly Ee (if_pos rfl) fun w _ hw=>if_neg hw
     rw[bq]at eF
     have qp:=dD.visit rN Ee ki (by rw[FO];exact hr)
     rw[FO]at qp
     have hQ2:=qp.len
     rw[List.length_append]at hQ2
     simp only[List.length_singleton]at hQ2
     have fX:qT+(Q'.drop (i+1)).length<qT+cnt:=by rw[List.length_drop];omega
     (repeat(first|((repeat(revert hN;revert N;apply Pn.out));refine wk (tw @lT.eq_1 (tw @c0 (tw @c7 (tw @c8 (tw @c9 (tw @jF (tw @c36 (tw @N8 (tw @hv (tw @yT (tw @ON (tw @tl (tw @ki @eF))))))))))))) ?_;(repeat(refine Pn.mk ?_;intro N hN)))|((try apply Or.inl);refine⟨_,aj.x (jV) (sd (tw @lT.eq_1 (tw @c0 (tw @c7 (tw @c8 (tw @c9 (tw @jF (tw @c36 (tw @N8 (tw @hv (tw @yT (tw @ON (tw @tl (tw @ki @eF)))))))))))))),?_⟩;refine hN _ _ ?_;clear hN N)))
     refine KR ?_
     have hq:(Q'.drop (i+1)).map eN++[[.int .i64 (v:Int)]]=((Q'++[v]).drop (i+1)).map eN:=by rw[List.drop_append_of_le_length (by omega),List.map_append];rfl
     simp only[go_sem, ↓reduceIte,Nat.reduceEqDiff,Nat.reduceAdd,Nat.reduceSub,Nat.reduceLeDiff,reduceCtorEq,c9,cgC,fX,RG,hq]
     refine hN _ _ ?_
     clear hN N
     (try((repeat(revert hN;revert N;apply Pn.out));refine wk (tw @c36 @hw) ?_;(repeat(refine Pn.mk ?_;intro N hN))))
     refine⟨_,?_,v+1,_,_,rfl,Ee,sd @hw,qp,⟨by rw[List.length_append];omega,by rw[List.getElem_append_left rN];exact FO⟩,sd @RG,sd @RG,by(try dsimp only);omega,fun w hw Js=>?_⟩
     ·omega
     ·by_cases FP:w=v
      ·rw[if_pos FP];omega
      ·rw[if_neg FP];exact dE w (by omega) Js
    ·rw[decide_eq_false hr]at jV
     (repeat(first|((repeat(revert hN;revert N;apply Pn.out));refine wk (tw @lT.eq_1 (tw @c0 (tw @c7 (tw @c8 (tw @c9 (tw @jF (tw @c36 (tw @N8 (tw @hv (tw @yT (tw @ON (tw @tl (tw @ki @hw))))))))))))) ?_;(repeat(refine Pn.mk ?_;intro N hN)))|((try apply Or.inl);refine⟨_,aj.x (jV) (sd (tw @lT.eq_1 (tw @c0 (tw @c7 (tw @c8 (tw @c9 (tw @jF (tw @c36 (tw @N8 (tw @hv (tw @yT (tw @ON (tw @tl (tw @ki @hw)))))))))))))),?_⟩;refine hN _ _ ?_;clear hN N)))
     refine⟨_,?_,v+1,par',Q',rfl,Ee,sd @hw,dD,⟨rN,FO⟩,sd @yT,sd @cgC,by(try dsimp only);omega,fun w hw Js=>?_⟩
     ·omega
     ·by_cases FP:w=v
      ·subst FP;exact absurd Js hr
      ·exact dE w (by omega) Js
   ·(try((repeat(revert hN;revert N;apply Pn.out));refine wk (tw @lT.eq_1 (tw @c0 (tw @c7 (tw @c8 (tw @c9 (tw @jF (tw @c36 (tw @N8 (tw @hv (tw @yT (tw @ON (tw @tl (tw @ki @hw))))))))))))) ?_;(repeat(refine Pn.mk ?_;intro N hN))))
    refine⟨_,?_,v+1,par',Q',rfl,Ee,sd @hw,dD,⟨rN,FO⟩,sd @yT,sd @cgC,by(try dsimp only);omega,fun w hw Js=>?_⟩
    ·omega
    ·by_cases FP:w=v
     ·subst FP;omega
     ·exact dE w (by omega) Js
  ·have hvc:v=cnt:=by omega
   subst hvc
   (try((repeat(revert hN;revert N;apply Pn.out));refine wk (tw @c36 (tw @N8 @hv)) ?_;(repeat(refine Pn.mk ?_;intro N hN))))
   refine⟨_,?_,par',Q',i+1,rfl,dD.next rN fun w hw hr=>dE w hw (by rw[<-FO];exact hr),sd @yT,sd @cgC,by(try dsimp only);omega⟩
   omega
 ·have hiQ:i=Q.length:=by omega
  subst hiQ
  have kF:¬(0:Int)<((Q.length-Q.length:Nat):Int):=by omega
  have UY:=dS (f:=par) hy
  have tl:=dF par cnt
  rw[bq]at UY
  by_cases ki:par y<0
  ·(try((repeat(revert hN;revert N;apply Pn.out));refine wk (tw @b0 (tw @b1 (tw @b2 (tw @b7 (tw @b8 (tw @b9 (tw @bgC (tw @Ta (tw @kF (tw @bgo (tw @UY (tw @tl (tw @TA @ki))))))))))))) ?_;(repeat(refine Pn.mk ?_;intro N hN))))
   exact⟨[.cC],sd @Nat.zero_add,.cC,k6 _ _,.inl ⟨rfl,hB.cut hy ki⟩⟩
  ·(try((repeat(revert hN;revert N;apply Pn.out));refine wk (tw @b0 (tw @b1 (tw @b2 (tw @b7 (tw @b8 (tw @b9 (tw @bgC (tw @Ta (tw @kF (tw @bgo (tw @UY (tw @tl (tw @TA @ki))))))))))))) ?_;(repeat(refine Pn.mk ?_;intro N hN))))
   refine aW (fun m env st=>∃(k:Nat) (out:List Nat) (p:Id),m=Q.idxOf k/\env 13=.int .i64 (k:Int)/\env 12=.own p 0 out.length/\st.get p=some ⟨true,1,out.map eN⟩/\p.bW<st.next/\st_b.next<=p.bW/\k∈Q/\v7 c f Q y k out/\st.get o=some ⟨true,1,ea par cnt⟩) (Q.idxOf y) ⟨y,[y],⟨301017001,st_b.next+1+1⟩,rfl,by(simp only[go_sem, ↓reduceIte,Nat.reduceEqDiff,Nat.reduceAdd,Nat.reduceSub,Nat.reduceLeDiff,reduceCtorEq]),by(simp only[go_sem, ↓reduceIte,Nat.reduceEqDiff,Nat.reduceAdd,Nat.reduceSub,Nat.reduceLeDiff,reduceCtorEq])<;>rfl,by(simp only[go_sem, ↓reduceIte,Nat.reduceEqDiff,Nat.reduceAdd,Nat.reduceSub,Nat.reduceLeDiff,reduceCtorEq])<;>rfl,by(try dsimp only);omega,by(try dsimp only);omega,(hB.iff y hy).1 (by omega),v7.start ((hB.iff y hy).1 (by omega)),by(have Vy:=dv (i:=o) (n:=st_b.next) (by omega));simp only[go_sem, ↓reduceIte,Nat.reduceEqDiff,Nat.reduceAdd,Nat.reduceSub,Nat.reduceLeDiff,reduceCtorEq,Vy,bgo]⟩ ?_
   rintro m env_d st_d ⟨k,out,p,rfl,d13,d12,dgp,dpn,dpo,hkQ,vK,dgo⟩ dkp
   have d1:=dkp 1 (by kernel_rfl)
   have d8:=dkp 8 (by kernel_rfl)
   simp only[go_sem, ↓reduceIte,Nat.reduceEqDiff,Nat.reduceAdd,Nat.reduceSub,Nat.reduceLeDiff,reduceCtorEq,b1,b8]at d1 d8
   clear dkp
   have Bn:=dv dpn
   have Ci:=dv (i:=o) (n:=st_d.next) (by omega)
   have ew:=cH (a:=o) (b:=p) (by omega)
   have L0:=vK.len hB.lt
   have fE:=hB.lt k hkQ
   have lF:(out.map eN).length=out.length:=by simp
   by_cases Ti:k=x
   ·have hd:decide ((k:Int)=(x:Int))=true:=decide_eq_true (by rw[Ti])
    have Vl:0<out.length:=by
     obtain⟨rest,h1,_⟩:=vK
     rw[<-List.length_reverse,h1];simp
    (try((repeat(revert hN;revert N;apply Pn.out));refine wk (tw @d1 (tw @d8 (tw @d12 (tw @d13 (tw @hd @Bool.not_true))))) ?_;(repeat(refine Pn.mk ?_;intro N hN))))
    refine .inr (aJ _ _ _ _ _ (fun r σ2 hq=>?_) (Hs out Vl (by omega) p _ dgp (by(try dsimp only);omega)))
    obtain⟨Rs,nA,Je⟩:=hq
    refine hN _ _ ?_
    clear hN N
    (try((repeat(revert hN;revert N;apply Pn.out));refine wk @d12 ?_;(repeat(refine Pn.mk ?_;intro N hN))))
    refine⟨[.own p 0 out.length],sd @d12,.sl (out.reverse.map eN),?_,.inr ⟨out.reverse,rfl,by subst Ti;exact vK.way hB.lt⟩⟩
    exact fJ (sz:=1) Rs (by simp) fun a=>Om _ 4 a
   ·have hd:decide ((k:Int)=(x:Int))=false:=decide_eq_false fun h=>Ti (by omega)
    obtain⟨u,huQ,hpu,Ak,hr⟩:=hB.up k hkQ Ti
    have eT:=dS (f:=par) fE
    rw[bq,hpu]at eT
    have hki:(k:Int)<(cnt:Int):=by omega
    have e1:out.length+1<=16777216:=by omega
    (try((repeat(revert hN;revert N;apply Pn.out));refine wk (tw @d1 (tw @d8 (tw @d12 (tw @d13 (tw @hd (tw @Bool.not_false (tw @dgo (tw @dgp (tw @eT (tw @tl (tw @hki (tw @Bn (tw @Ci (tw @ew (tw @lF @e1))))))))))))))) ?_;(repeat(refine Pn.mk ?_;intro N hN))))
    refine⟨_,Ak,u,out++[u],⟨301021003,st_d.next+1+1⟩,rfl,sd @Nat.zero_add,by rw[List.length_append];simp only[go_sem, ↓reduceIte,Nat.reduceEqDiff,Nat.reduceAdd,Nat.reduceSub,Nat.reduceLeDiff,reduceCtorEq,List.length_cons,List.length_nil],by rw[List.map_append,List.map_cons,List.map_nil];simp only[go_sem, ↓reduceIte,Nat.reduceEqDiff,Nat.reduceAdd,Nat.reduceSub,Nat.reduceLeDiff,reduceCtorEq,eN],by(try dsimp only);omega,by(try dsimp only);omega,huQ,vK.step huQ Ak hr,sd (tw @Ci (tw @ew @dgo))⟩
theorem BD (b:Nat):∀(l:List Nat) (a:Nat) (f:Nat->Nat->Int),mJ f ((a::l)++[b])=kJ (mJ f (a::l)) ((a::l).getLast (by simp)) b
 |[],a,f=>rfl
 |c::l,a,f=>by
  rw[List.cons_append,List.cons_append,mJ,<-List.cons_append,BD b l c (kJ f a c),mJ,List.getLast_cons_cons]
theorem Gl {p:List Nat} {f:Nat->Nat->Int} {i:Nat} (h1:1<=i) (hi:i<p.length):mJ f (p.take (i+1))=kJ (mJ f (p.take i)) (p[i-1]'(by omega)) p[i]:=by
 rw[List.take_succ_eq_append_getElem hi]
 have ik:p.take i≠[]:=by
  intro h
  have:(p.take i).length=0:=by rw[h];rfl
  rw[List.length_take]at this;omega
 obtain⟨a,l,S3⟩:∃a l,p.take i=a::l:=by
  cases h:p.take i with
  |nil=>exact absurd h ik
  |cons a l=>exact⟨a,l,rfl⟩
 have wZ:(p.take i).getLast ik=p[i-1]'(by omega):=by
  rw[List.getLast_eq_getElem,List.getElem_take]
  congr 1
  rw[List.length_take];omega
 simp only[S3]at wZ ⊢
 rw[BD,wZ]
theorem Hm (f:Nat->Nat->Int) (a b u v:Nat):kJ f a b u v<=f u v+1/\f u v-1<=kJ f a b u v:=by
 unfold kJ bump
 split<;>split<;>constructor<;>omega
theorem mK:∀(p:List Nat) (f:Nat->Nat->Int) (u v:Nat),mJ f p u v<=f u v+p.length/\f u v-p.length<=mJ f p u v
 |[],f,u,v=>by simp[mJ]
 |[_],f,u,v=>by simp[mJ];omega
 |a::b::r,f,u,v=>by
  rw[mJ]
  have h1:=mK (b::r) (kJ f a b) u v
  have h2:=Hm f a b u v
  simp only[List.length_cons]at h1 ⊢
  omega
theorem oi.push {g g':Rows} {X o1 o2:Id} {R1 R2:Nat->Id} {n nb:Nat} {c f:Nat->Nat->Int} (I:Gg X o1 o2 R1 R2 n nb) (h:oi g X o1 o2 R1 R2 n c f) {a b:Nat} (ha:a<n) (hb:b<n) (re:a≠b) (hA:g' (R2 a)=some ⟨true,1,ea (bump f a b 1 a) n⟩) (hB:g' (R2 b)=some ⟨true,1,ea (bump (bump f a b 1) b a (-1) b) n⟩) (hf:∀i:Id,i.bW<nb->(i=R2 a)=False->(i=R2 b)=False->g' i=g i):oi g' X o1 o2 R1 R2 n c (kJ f a b):=by
 have ne:∀{i:Id} {s:Nat},i.site=s->(s==299005006)=false->∀a,a<n->(i=R2 a)=False:=fun {i s} hi hs a ha=>by
  simp only[eq_iff_iff,iff_false]
  rintro rfl
  rw[I.NK a ha]at hi
  subst hi
  simp at hs
 refine⟨(hf _ I.vx (ne I.sx (by decide) _ ha) (ne I.sx (by decide) _ hb)).trans h.x,(hf _ I.v1 (ne I.s1 (by decide) _ ha) (ne I.s1 (by decide) _ hb)).trans h.t1,(hf _ I.v2 (ne I.s2 (by decide) _ ha) (ne I.s2 (by decide) _ hb)).trans h.t2,fun i hi=>(hf _ (I.TH i hi) (ne (I.TF i hi) (by decide) _ ha) (ne (I.TF i hi) (by decide) _ hb)).trans (h.r1 i hi),fun i hi=>?_⟩
 by_cases Lc:i=b
 ·subst Lc;exact hB
 ·by_cases OP:i=a
  ·subst OP
   rw[hA,kJ,kf Lc]
  ·rw[kJ,kf Lc,kf OP,hf _ (I.QJ i hi) (by simp only[eq_iff_iff,iff_false];exact fun he=>OP (I.i2 i _ hi ha he)) (by simp only[eq_iff_iff,iff_false];exact fun he=>Lc (I.i2 i _ hi hb he))]
   exact h.r2 i hi
theorem PD (cnt:Nat) (yn:1<=cnt) (hn:cnt<=1048576) (c:Nat->Nat->Int) (hc:∀u v,u<cnt->v<cnt->0<=c u v/\c u v<=16777216) (x y:Nat) (hx:x<cnt) (hy:y<cnt) (RX:x≠y) (t:Int) (ht:t<=1099511627776)
  (X o1 o2:Id) (R1 R2:Nat->Id) (nb:Nat) (I:Gg X o1 o2 R1 R2 cnt nb) (σ:ar) (hM:oi σ.get X o1 o2 R1 R2 cnt c (fun _ _=>0)) (Tm:nb<=σ.next):
  Call Tryz.prog 300 [.ptr X 0 0,.int .i64 x,.int .i64 y,.int .i64 t] σ fun r σ'=>∃val:Int,r=.int .i64 val/\(val<t↔∃S:Nat->Bool,S x=true/\S y=false/\mL cnt S c<t)/\σ.next<=σ'.next:=by
 refine eW eI rfl fun hl=>?_
 clear hl
 have hxS:(fun v=>decide (v=x)) x=true:=by simp
 have hyS:(fun v=>decide (v=x)) y=false:=by simp;exact fun h=>RX h.symm
 obtain⟨top,Vu⟩:∃top,top=mL cnt (fun v=>decide (v=x)) c:=⟨_,rfl⟩
 (try((repeat(revert hN;revert N;apply Pn.out));refine wk @Nat.zero_add ?_;(repeat(refine Pn.mk ?_;intro N hN))))
 refine aW (fun m env st=>∃(k:Nat) (f:Nat->Nat->Int),m=(top-k).toNat/\env 9=.int .i64 (k:Int)/\lP cnt c f x y k/\oi st.get X o1 o2 R1 R2 cnt c f/\σ.next<=st.next/\(0<k->(k:Int)<=t)/\∀u v,-((k:Int)*(cnt:Int))<=f u v) (top-0).toNat ⟨0,fun _ _=>0,rfl,by(simp only[go_sem, ↓reduceIte,Nat.reduceEqDiff,Nat.reduceAdd,Nat.reduceSub,Nat.reduceLeDiff,reduceCtorEq])<;>rfl,lP.zero fun u v hu hv=>(hc u v hu hv).1,hM,by(try dsimp only);omega,fun h=>absurd h (Nat.lt_irrefl 0),fun u v=>by simp⟩ ?_
 rintro m env_b st_b ⟨k,f,rfl,b9,hF,bM,bn,bk,blo⟩ bkp
 have b0:=bkp 0 (by kernel_rfl)
 have b1:=bkp 1 (by kernel_rfl)
 have b2:=bkp 2 (by kernel_rfl)
 have b3:=bkp 3 (by kernel_rfl)
 simp only[go_sem, ↓reduceIte,Nat.reduceEqDiff,Nat.reduceAdd,Nat.reduceSub,Nat.reduceLeDiff,reduceCtorEq]at b0 b1 b2 b3
 clear bkp
 have hz:cV (dP st_b.get) 6 [.ptr X 0 0,.int .i64 (x:Int),.int .i64 (y:Int)]=some [.dn (lT cnt c f),.int .i64 x,.int .i64 y]:=by simp only[ai,aq,bM.fz,aI,Option.map_some]
 (try((repeat(revert hN;revert N;apply Pn.out));refine wk (tw @b0 (tw @b1 (tw @b2 (tw @b3 @b9)))) ?_;(repeat(refine Pn.mk ?_;intro N hN))))
 refine .inr (aJ _ _ _ _ _ (fun r σ1 hq=>?_) ((Su cnt yn hn c f x y hx hy).x mixed hz))
 obtain⟨O5,rfl⟩:=hq
 refine hN _ _ ?_
 clear hN N
 rcases O5 with⟨rfl,S,OG,OH,SX⟩|⟨p,rfl,hW⟩
 ·(try((repeat(revert hN;revert N;apply Pn.out));refine wk (tw @b0 (tw @b1 (tw @b2 (tw @b3 (tw @b9 (tw @Bool.not_true @Bool.not_false)))))) ?_;(repeat(refine Pn.mk ?_;intro N hN))))
  refine ft (.inl rfl) (vs:=[.int .i64 (k:Int)]) (sd @Nat.zero_add) ⟨(k:Int),rfl,⟨fun h=>⟨S,OG,OH,by rw[<-hF.full OG OH SX];exact h⟩,fun⟨S',h1,h2,h3⟩=>by have:=hF.bound h1 h2;omega⟩,by(try dsimp only);omega⟩
 ·obtain⟨⟨rs,rfl,wZ⟩,mM,fX,hplt⟩:=hW
  by_cases LW:t<=(k:Int)
  ·(try((repeat(revert hN;revert N;apply Pn.out));refine wk (tw @b0 (tw @b1 (tw @b2 (tw @b3 (tw @b9 (tw @LW (tw @Bool.not_true @Bool.not_false))))))) ?_;(repeat(refine Pn.mk ?_;intro N hN))))
   refine ft (.inl rfl) (vs:=[.int .i64 (k:Int)]) (sd @Nat.zero_add) ⟨(k:Int),rfl,⟨fun h=>by omega,fun⟨S',h1,h2,h3⟩=>by have:=hF.bound h1 h2;omega⟩,by(try dsimp only);omega⟩
  ·(try((repeat(revert hN;revert N;apply Pn.out));refine wk (tw @b0 (tw @b1 (tw @b2 (tw @b3 (tw @b9 (tw @LW (tw @Bool.not_true @Bool.not_false))))))) ?_;(repeat(refine Pn.mk ?_;intro N hN))))
   have mD:=pC cnt _ mM hplt
   have hkc:(k:Int)*(cnt:Int)<=1099511627776*1048576:=Int.mul_le_mul (by omega) (by omega) (by omega) (by omega)
   have UR:=hF.bound (S:=fun v=>decide (v=x)) hxS hyS
   have hnear:=mK
   obtain⟨p,hp⟩:∃p,p=x::rs:=⟨_,rfl⟩
   have hmp:eN x::List.map eN rs=p.map eN:=by rw[hp];rfl
   rw[hmp]
   have O0:1<=p.length:=by rw[hp];simp
   have LL:=hF.aug wZ mM fX hplt
   rw[<-hp]at LL mM fX hplt mD
   have Pb:p.take 1=[x]:=by rw[hp];rfl
   clear hmp wZ
   refine aW (fun m env st=>∃i:Nat,m=p.length-i/\1<=i/\i<=p.length/\env 11=.int .i64 (i:Int)/\oi st.get X o1 o2 R1 R2 cnt c (mJ f (p.take i))/\st_b.next<=st.next) (p.length-1) ⟨1,rfl,Nat.le_refl _,O0,by(simp only[go_sem, ↓reduceIte,Nat.reduceEqDiff,Nat.reduceAdd,Nat.reduceSub,Nat.reduceLeDiff,reduceCtorEq])<;>rfl,by rw[Pb];exact bM,by(try dsimp only);omega⟩ ?_
   rintro m env_c st_c ⟨i,rfl,HW,lV,ow,cM,cn⟩ ckp
   have c0:=ckp 0 (by kernel_rfl)
   have c1:=ckp 1 (by kernel_rfl)
   have c2:=ckp 2 (by kernel_rfl)
   have c3:=ckp 3 (by kernel_rfl)
   have c9:=ckp 9 (by kernel_rfl)
   have jF:=ckp 10 (by kernel_rfl)
   simp only[go_sem, ↓reduceIte,Nat.reduceEqDiff,Nat.reduceAdd,Nat.reduceSub,Nat.reduceLeDiff,reduceCtorEq,b0,b1,b2,b3,b9]at c0 c1 c2 c3 c9 jF
   clear ckp
   have lF:(p.map eN).length=p.length:=by simp
   by_cases hi:(i:Int)<(p.length:Int)
   ·have fB:i<p.length:=by omega
    have yv:=Gl (f:=f) HW fB
    obtain⟨a,ha⟩:∃a,a=p[i-1]'(by omega):=⟨_,rfl⟩
    obtain⟨b,hb⟩:∃b,b=p[i]:=⟨_,rfl⟩
    have FE:a<cnt:=by rw[ha];exact hplt _ (List.getElem_mem _)
    have FG:b<cnt:=by rw[hb];exact hplt _ (List.getElem_mem _)
    have re:a≠b:=by
     rw[ha,hb]
     exact List.pairwise_iff_getElem.1 mM (i-1) i (by omega) fB (by omega)
    have Rt:(p.map eN)[i-1]? =some [.int .i64 (a:Int)]:=by rw[List.getElem?_map,List.getElem?_eq_getElem (by omega),ha];rfl
    have Ru:(p.map eN)[i]? =some [.int .i64 (b:Int)]:=by rw[List.getElem?_map,List.getElem?_eq_getElem fB,hb];rfl
    rw[<-ha,<-hb]at yv
    have Vb:=mK (p.take i) f a b
    have Vc:=mK (p.take i) f b a
    rw[List.length_take]at Vb Vc
    have hl1:=blo b a
    have U4:=blo a b
    have RS:=hF.le a b FE FG
    have hu2:=hF.le b a FG FE
    have hca:=hc a b FE FG
    have FH:=hc b a FG FE
    generalize mJ f (p.take i)=fl at *
    have gA:=sV (R:=R2) (n:=cnt) FE
    have gB:=sV (R:=R2) (n:=cnt) FG
    have rA:=cM.r2 _ FE
    have rB:=cM.r2 _ FG
    have cA:=dS (f:=fl a) FG
    have cB:=dS (f:=fl b) FE
    have sA:=o9 (f:=fl) (a:=a) (d:=1) FG
    have OY:bump fl a b 1 b=fl b:=kf fun h=>re h.symm
    have sB:=o9 (f:=bump fl a b 1) (a:=b) (b:=a) (d:=-1) (n:=cnt) FE
    rw[OY]at sB
    have gX:=cM.x
    have g2:=cM.t2
    have gP:(a:Int)<(cnt:Int):=by omega
    have fU:(b:Int)<(cnt:Int):=by omega
    have Ty:IntKind.i64.wrap ((i:Int)-1)=((i-1:Nat):Int):=by rw[bz (by omega)];omega
    have y7:((i-1:Nat):Int)<(p.length:Int):=by omega
    have wA:IntKind.i64.wrap (fl a b+1)=fl a b+1:=bz (by omega)
    have wB:IntKind.i64.wrap (fl b a-1)=fl b a+-1:=by rw[bz (by omega)];omega
    have JA:IntKind.i64.wrap ((i:Int)+1)=((i+1:Nat):Int):=aB (by omega)
    have l2:=kp R2 cnt cnt
    have lA:=dF (fl a) cnt
    have lB:=dF (fl b) cnt
    have ik:(R2 a=R2 b)=False:=by simp only[eq_iff_iff,iff_false];exact fun h=>re (I.i2 _ _ FE FG h)
    have Jk:(R2 b=R2 a)=False:=by simp only[eq_iff_iff,iff_false];exact fun h=>re (I.i2 _ _ FE FG h.symm)
    have xA:=AU I.sx (I.NK a FE) (by decide)
    have xB:=AU I.sx (I.NK b FG) (by decide)
    have yA:=AU I.s2 (I.NK a FE) (by decide)
    have yB:=AU I.s2 (I.NK b FG) (by decide)
    have qX:=dv (i:=X) (n:=st_c.next) (by have:=I.vx;omega)
    have q2:=dv (i:=o2) (n:=st_c.next) (by have:=I.v2;omega)
    have qA:=dv (i:=R2 a) (n:=st_c.next) (by have:=I.QJ a FE;omega)
    have qB:=dv (i:=R2 b) (n:=st_c.next) (by have:=I.QJ b FG;omega)
    rw[bq]at cA cB sA sB
    (try((repeat(revert hN;revert N;apply Pn.out));refine wk (tw @c0 (tw @c9 (tw @jF (tw @ow (tw @lF (tw @hi (tw @y7 (tw @Rt (tw @Ru (tw @gA (tw @gB (tw @rA (tw @rB (tw @cA (tw @cB (tw @sA (tw @sB (tw @gX (tw @g2 (tw @gP (tw @fU (tw @Ty (tw @wA (tw @wB (tw @JA (tw @l2 (tw @lA (tw @lB (tw @ik (tw @Jk (tw @xA (tw @xB (tw @yA (tw @yB (tw @qX (tw @q2 (tw @qA @qB))))))))))))))))))))))))))))))))))))) ?_;(repeat(refine Pn.mk ?_;intro N hN))))
    refine⟨_,?_,i+1,rfl,by omega,by omega,sd @JA,?_,by(try dsimp only);omega⟩
    ·omega
    ·rw[yv]
     refine cM.push I FE FG re ?_ ?_ fun j hj h1 h2=>?_
     ·simp only[go_sem, ↓reduceIte,Nat.reduceEqDiff,Nat.reduceAdd,Nat.reduceSub,Nat.reduceLeDiff,reduceCtorEq,ik]
     ·simp only[go_sem, ↓reduceIte,Nat.reduceEqDiff,Nat.reduceAdd,Nat.reduceSub,Nat.reduceLeDiff,reduceCtorEq,ik]
     ·simp only[go_sem, ↓reduceIte,Nat.reduceEqDiff,Nat.reduceAdd,Nat.reduceSub,Nat.reduceLeDiff,reduceCtorEq,h1,h2]
   ·have HX:i=p.length:=by omega
    subst HX
    rw[List.take_length]at cM
    have Pe:IntKind.i64.wrap ((k:Int)+1)=((k+1:Nat):Int):=aB (by omega)
    have US:=LL.bound (S:=fun v=>decide (v=x)) hxS hyS
    (try((repeat(revert hN;revert N;apply Pn.out));refine wk (tw @c0 (tw @c9 (tw @jF (tw @ow (tw @lF (tw @hi @Pe)))))) ?_;(repeat(refine Pn.mk ?_;intro N hN))))
    refine⟨_,?_,k+1,_,rfl,sd @Pe,by rw[Int.natCast_add];exact LL,cM,by(try dsimp only);omega,fun _=>by omega,fun u v=>?_⟩
    ·rw[<-Vu]at US;omega
    ·have h1:=(mK p f u v).2
     have h2:=blo u v
     rw[Int.natCast_add,Int.add_mul]
     omega
noncomputable def uz (n:Nat) (bs:List PB) (t:Int):Bool:=@decide (kV n bs t) (Classical.propDecidable _)
theorem za {n:Nat} {bs:List PB} {t:Int} (h:kV n bs t):true=uz n bs t:=by simp[uz,h]
theorem Cd {n:Nat} {bs:List PB} {t:Int} (h:¬kV n bs t):false=uz n bs t:=by simp[uz,h]
theorem L1 (cnt:Nat) (hn:cnt<=1048576) (bs:List PB) (hb:∀b∈bs,b.a<cnt/\b.b<cnt) (dK:∀b∈bs,0<=b.s/\b.s<=4) (qC:bs.length<=1048576) (t:Int) (ht:t<=1099511627776):
  aj Tryz.prog 288 [.int .i64 cnt,.sl (bs.map az),.int .i64 t] (.bool (uz cnt bs t)):=by
 refine aj.body eI rfl fun hl n0=>?_
 clear hl
 have rf:=AM bs (fun _ _=>0) (fun b h=>(dK b h).1) (fun _ _=>Int.le_refl _)
 have hle:=room_le bs (fun _ _=>0) 0 (fun b h=>(dK b h).2) (fun _ _=>Int.le_refl _) (Int.le_refl _)
 have fX:bs.foldl oq (fun _ _=>0)=lr bs:=rfl
 rw[fX]at rf hle
 (try((repeat(revert hN;revert N;apply Pn.out));refine wk @Nat.zero_add ?_;(repeat(refine Pn.mk ?_;intro N hN))))
 refine aW (fun m env st=>∃y:Nat,m=cnt+1-y/\1<=y/\env 7=.int .i64 (y:Int)/\y<=cnt+1/\∀z,1<=z->z<y->z<cnt->∀S:Nat->Bool,S 0=true->S z=false->t<=jk S bs) (cnt+1-1) ⟨1,rfl,Nat.le_refl _,by(simp only[go_sem, ↓reduceIte,Nat.reduceEqDiff,Nat.reduceAdd,Nat.reduceSub,Nat.reduceLeDiff,reduceCtorEq])<;>rfl,by omega,fun z h1 h2=>by omega⟩ ?_
 rintro m env_b st_b ⟨y,rfl,RY,b7,hyl,dE⟩ bkp
 have b0:=bkp 0 (by kernel_rfl)
 have b1:=bkp 1 (by kernel_rfl)
 have b2:=bkp 2 (by kernel_rfl)
 simp only[go_sem, ↓reduceIte,Nat.reduceEqDiff,Nat.reduceAdd,Nat.reduceSub,Nat.reduceLeDiff,reduceCtorEq]at b0 b1 b2
 clear bkp
 by_cases hy:(y:Int)<(cnt:Int)
 ·have hyn:y<cnt:=by omega
  (try((repeat(revert hN;revert N;apply Pn.out));refine wk (tw @b0 (tw @b1 (tw @b2 (tw @b7 @hy)))) ?_;(repeat(refine Pn.mk ?_;intro N hN))))
  refine .inr (aJ _ _ _ _ _ (fun r σ1 hq=>?_) (CI cnt (by omega) hn bs hb dK qC _))
  obtain⟨X,o1,o2,R1,R2,rfl,I,GQ,hM,_⟩:=hq
  refine hN _ _ ?_
  clear hN N
  (try((repeat(revert hN;revert N;apply Pn.out));refine wk (tw @b0 (tw @b1 (tw @b2 @b7))) ?_;(repeat(refine Pn.mk ?_;intro N hN))))
  have Qy:=PD cnt (by omega) hn (lr bs) (fun u v _ _=>⟨rf u v,by have:=hle u v;omega⟩) 0 y (by omega) hyn (by omega) t ht X o1 o2 R1 R2 σ1.next I
  refine .inr (aJ _ _ _ _ _ (fun r σ2 hq=>?_) (Qy _ hM (by(try dsimp only);omega)))
  obtain⟨val,rfl,so,nA⟩:=hq
  refine hN _ _ ?_
  clear hN N
  by_cases dY:val<t
  ·(try((repeat(revert hN;revert N;apply Pn.out));refine wk (tw @b0 (tw @b1 (tw @b2 (tw @b7 @dY)))) ?_;(repeat(refine Pn.mk ?_;intro N hN))))
   obtain⟨S,h1,h2,h3⟩:=so.1 dY
   rw[BP hb]at h3
   exact aU (b:=false) (.inl rfl) (sd @Nat.zero_add) (Cd fun h=>by have:=h S h1 ⟨y,hyn,h2⟩;omega)
  ·have hw:IntKind.i64.wrap ((y:Int)+1)=((y+1:Nat):Int):=aB (by omega)
   (try((repeat(revert hN;revert N;apply Pn.out));refine wk (tw @b0 (tw @b1 (tw @b2 (tw @b7 (tw @dY @hw))))) ?_;(repeat(refine Pn.mk ?_;intro N hN))))
   refine⟨_,?_,y+1,rfl,by omega,sd (tw @b7 @hw),by omega,fun z h1 h2 h3 S OG OH=>?_⟩
   ·omega
   ·by_cases hzy:z=y
    ·subst hzy
     rcases Int.lt_or_le (jk S bs) t with h|h
     ·exact absurd (so.2 ⟨S,OG,OH,by rw[BP hb];exact h⟩) dY
     ·exact h
    ·exact dE z h1 (by omega) h3 S OG OH
 ·(try((repeat(revert hN;revert N;apply Pn.out));refine wk (tw @b0 (tw @b1 (tw @b2 (tw @b7 @hy)))) ?_;(repeat(refine Pn.mk ?_;intro N hN))))
  exact aU (b:=true) (.inl rfl) (sd @Nat.zero_add) (za fun S h0 ⟨z,hz,hzf⟩=>by
   have:z≠0:=by rintro rfl;rw[h0]at hzf;cases hzf
   exact dE z (by omega) (by omega) hz S h0 hzf)
theorem Jl (cnt:Nat) (hn:cnt<=1048576) (bs:List PB) (hb:∀b∈bs,b.a<cnt/\b.b<cnt) (dK:∀b∈bs,0<=b.s/\b.s<=4) (qC:bs.length<=1048576) (t:Int) (ht:t<=1099511627776):
  aj Tryz.prog 288 [.int .i64 cnt,AQ bs,.int .i64 t] (.bool (uz cnt bs t)):=by
 have h:=L1 cnt hn bs hb dK qC t ht
 cases bs with
 |nil=>exact h.cut mixed (.same _ (.cC (.same _ .nil)))
 |cons b r=>rw[AR (by simp)];exact h
def Dn:Prop:=∀(s:aw) (l:List ad),iF s->jc s l->aj Tryz.prog 205 [.agg (ab s),.agg [.sl (l.map aa)]] (AQ (cP s l))
noncomputable def vQ (s:aw) (l:List ad) (t:Int):Bool:=if 64<iG s l t then false else uz (iG s l t) (dw (eE (aM t (cP s l))) (cP s l)) t
theorem Eh (s:aw) (l:List ad) (t:Int):vQ s l t=oh s l t:=by
 letI:=Classical.propDecidable (pV l.length (cP s l) t)
 unfold vQ
 by_cases h:64<iG s l t
 ·rw[if_pos h]
  exact(nf (p:=False) ⟨False.elim,fun k=>by have:=k.1;unfold iG at h;omega⟩).symm.trans (by simp) |>.symm
 ·rw[if_neg h]
  by_cases hp:kV (iG s l t) (dw (eE (aM t (cP s l))) (cP s l)) t
  ·rw[<-za hp]
   exact((nf (p:=True) ⟨fun _=>⟨by unfold iG at h;omega,hp⟩,fun _=>trivial⟩).symm.trans (by simp)).symm
  ·rw[<-Cd hp]
   exact((nf (p:=False) ⟨False.elim,fun k=>hp k.2⟩).symm.trans (by simp)).symm
theorem Kr (Ug:Dn) (s:aw) (l:List ad) (t:Int) (ht:t<=1099511627776) (h1:1<=l.length) (hS:iF s) (hA:jc s l):aj Tryz.prog 241 [.agg (ab s),.agg [.sl (l.map aa)],.int .i64 t] (.gO [.bool (oh s l t),.bool (decide ¬64<iG s l t)]):=by
 rw[<-Eh]
 refine aj.body eI rfl fun hl n0=>?_
 clear hl
 have hb:=yP (l:=l) hS
 have qC:=qK (s:=s) hA.1
 have Jc:=hA.1.oJ
 have xW:=Ug s l hS hA
 have Rj:=zZ l.length h1 (by omega) (cP s l) (fun b h=>⟨(hb b h).1,(hb b h).2.1⟩) (by omega) t
 have hL:=uE (aM t (cP s l))
 have fB:=EO hL (fun b h=>⟨(hb b h).1,(hb b h).2.1⟩)
 have hlen:=(nH (eE (aM t (cP s l))) (cP s l)).1
 have nz:=jY l.length (eE (aM t (cP s l)))
 have hho:=Jl (iG s l t) (by unfold iG;omega) (dw (eE (aM t (cP s l))) (cP s l)) (fun b h=>⟨(fB b h).1,(fB b h).2.1⟩) (fun b h=>by
  obtain⟨_,_,_,c,hc,dx⟩:=fB b h
  rw[dx];have:=hb c hc;omega) (by omega) t ht
 have fV:(l.map aa).length=l.length:=by simp
 have hzB:∀(g:Rows) (n:Nat) (bs:List PB),V.fz g (n+1) (AQ bs)=some (AQ bs):=fun g n bs=>by
  unfold AQ;split
  ·exact aY _ _
  ·exact cz _ _ _
 rw[ab]at xW
 rw[<-iG]at Rj
 have zf:∀(g:Rows) (x:Int),cV (dP g) 6 [.int .i64 l.length,AQ (cP s l),.int .i64 x]=some [.int .i64 l.length,AQ (cP s l),.int .i64 x]:=fun g x=>by simp only[ai,aq,aI,hzB,Option.map_some]
 have hzh:∀(g:Rows) (x y:Int),cV (dP g) 6 [.int .i64 x,AQ (dw (eE (aM t (cP s l))) (cP s l)),.int .i64 y]=some [.int .i64 x,AQ (dw (eE (aM t (cP s l))) (cP s l)),.int .i64 y]:=fun g x y=>by simp only[ai,aq,aI,hzB,Option.map_some]
 generalize AQ (cP s l)=B1 at *
 generalize AQ (dw (eE (aM t (cP s l))) (cP s l))=B2 at *
 by_cases uY:(64:Int)<(iG s l t:Int)
 ·have u7:64<iG s l t:=by omega
  (repeat(first|((repeat(revert hN;revert N;apply Pn.out));refine wk (tw @ab.eq_1 (tw @uY @fV)) ?_;(repeat(refine Pn.mk ?_;intro N hN)))|((try apply Or.inl);refine⟨_,aj.x (xW) (sd (tw @ab.eq_1 (tw @uY @fV))),?_⟩;refine hN _ _ ?_;clear hN N)))
  refine⟨_,aj.x Rj (zf _ _),?_⟩
  refine hN _ _ ?_
  clear hN N
  (try((repeat(revert hN;revert N;apply Pn.out));refine wk @uY ?_;(repeat(refine Pn.mk ?_;intro N hN))))
  exact jC (.inl rfl) (r1:=.bool false) (r2:=.bool false) (sd @Nat.zero_add) (sd @Nat.zero_add) (by rw[vQ,if_pos u7,decide_eq_false fun h=>h u7];simp only[eY,bD,cF,fo,Option.map_some])
 ·have u7:¬64<iG s l t:=by omega
  (repeat(first|((repeat(revert hN;revert N;apply Pn.out));refine wk (tw @ab.eq_1 (tw @uY @fV)) ?_;(repeat(refine Pn.mk ?_;intro N hN)))|((try apply Or.inl);refine⟨_,aj.x (xW) (sd (tw @ab.eq_1 (tw @uY @fV))),?_⟩;refine hN _ _ ?_;clear hN N)))
  refine⟨_,aj.x Rj (zf _ _),?_⟩
  refine hN _ _ ?_
  clear hN N
  (try((repeat(revert hN;revert N;apply Pn.out));refine wk @uY ?_;(repeat(refine Pn.mk ?_;intro N hN))))
  refine .inl ⟨_,aj.x hho (hzh _ _ _),?_⟩
  refine hN _ _ ?_
  clear hN N
  (try((repeat(revert hN;revert N;apply Pn.out));refine wk @Nat.zero_add ?_;(repeat(refine Pn.mk ?_;intro N hN))))
  exact jC (.inl rfl) (r1:=.bool (uz (iG s l t) (dw (eE (aM t (cP s l))) (cP s l)) t)) (r2:=.bool true) (sd @Nat.zero_add) (sd @Nat.zero_add) (by rw[vQ,if_neg u7,decide_eq_true u7];simp only[eY,bD,cF,fo,Option.map_some])
theorem vg (t:Int):aj Tryz.prog 132 [.int .i64 t] (.bool (jf t 1 16)):=by
 refine aj.body eI rfl fun hl n0=>?_
 clear hl
 have h:=lz t 1 16
 (repeat(first|((repeat(revert hN;revert N;apply Pn.out));refine wk @Nat.zero_add ?_;(repeat(refine Pn.mk ?_;intro N hN)))|((try apply Or.inl);refine⟨_,aj.x (h) (sd @Nat.zero_add),?_⟩;refine hN _ _ ?_;clear hN N)))
 exact aU (b:=jf t 1 16) (.inl rfl) (sd @Nat.zero_add) rfl
theorem yc (Ug:Dn) (s:ax) (hn:gF s.aD) (hg:s.aD.ay.length<=1048576) (ht:s.aD.ae.length<=1048576) (hs:∀t∈s.aD.ae,t.bx.length<=1048576) (hl:s.aX.ae.length<=1048576):aj Tryz.prog 97 [.agg (au s)] (.bool (lv s)):=by
 refine aj.body eI rfl fun nB n0=>?_
 clear nB
 by_cases h0:(s.aX.ae.length:Int)=0
 ·have hd:decide ((s.aX.ae.length:Int)=0)=true:=decide_eq_true h0
  (try((repeat(revert hN;revert N;apply Pn.out));refine wk (tw @au.eq_1 @hd) ?_;(repeat(refine Pn.mk ?_;intro N hN))))
  exact aU (b:=false) (.inl rfl) (sd @Nat.zero_add) (kd fun h=>by have:=h.some;omega)
 have hd:decide ((s.aX.ae.length:Int)=0)=false:=decide_eq_false h0
 have OI:=nU s.aD s.aX.ae hn hg ht hs hl
 have Ra:=vg s.aA
 have key:aj Tryz.prog 169 [.agg (ab s.aD),.agg [.sl (s.aX.ae.map aa)],.int .i64 s.aA] (.gO [.bool (lv s),.int .i64 (if rK s.aD&&kM s.aD s.aX.ae then(if jf s.aA 1 16 then(if 64<iG s.aD s.aX.ae s.aA then 4 else 0)else 2)else 1)]):=by
  refine aj.body eI rfl fun nB n0=>?_
  clear nB
  rw[ab]at OI
  cases hA:rK s.aD&&kM s.aD s.aX.ae
  ·rw[hA]at OI
   have lJ:lv s=false:=(kd fun h=>by rw[mW.2 h.set,gi.2 h.rJ]at hA;cases hA).symm
   (repeat(first|((repeat(revert hN;revert N;apply Pn.out));refine wk @ab.eq_1 ?_;(repeat(refine Pn.mk ?_;intro N hN)))|((try apply Or.inl);refine⟨_,aj.x (OI) (sd @ab.eq_1),?_⟩;refine hN _ _ ?_;clear hN N)))
   exact jC (.inl rfl) (r1:=.bool false) (r2:=.int .i64 1) (sd @Nat.zero_add) (sd @Nat.zero_add) (by rw[lJ];simp only[eY,bD,cF,fo,eQ,Option.map_some];rfl)
  rw[hA]at OI
  simp only[Bool.and_eq_true]at hA
  have hS:=mW.1 hA.1
  have hP:=gi.1 hA.2
  cases hT:jf s.aA 1 16
  ·rw[hT]at Ra
   have lJ:lv s=false:=(kd fun h=>by have:=h.HH;rw[hT]at this;cases this).symm
   (repeat(first|((repeat(revert hN;revert N;apply Pn.out));refine wk @ab.eq_1 ?_;(repeat(refine Pn.mk ?_;intro N hN)))|((try apply Or.inl);refine⟨_,aj.x (OI) (sd @ab.eq_1),?_⟩;refine hN _ _ ?_;clear hN N)|((try apply Or.inl);refine⟨_,aj.x (Ra) (sd @ab.eq_1),?_⟩;refine hN _ _ ?_;clear hN N)))
   exact jC (.inl rfl) (r1:=.bool false) (r2:=.int .i64 2) (sd @Nat.zero_add) (sd @Nat.zero_add) (by rw[lJ];simp only[eY,bD,cF,fo,eQ,Option.map_some];rfl)
  have L9:=ez hT
  rw[hT]at Ra
  have dK:=Kr Ug s.aD s.aX.ae s.aA (by omega) (by omega) hS hP
  rw[ab]at dK
  have hsy:lv s=oh s.aD s.aX.ae s.aA:=by
   cases hB:oh s.aD s.aX.ae s.aA
   ·exact(kd fun h=>by have:=qi.2 h.holds;rw[hB]at this;cases this).symm
   ·exact(C0 ⟨hS,hP,by omega,hT,qi.1 hB⟩).symm
  by_cases uY:64<iG s.aD s.aX.ae s.aA
  ·rw[decide_eq_false fun h=>h uY]at dK
   have lJ:lv s=false:=(kd fun h=>by have:=h.holds.1;unfold iG at uY;omega).symm
   (repeat(first|((repeat(revert hN;revert N;apply Pn.out));refine wk @ab.eq_1 ?_;(repeat(refine Pn.mk ?_;intro N hN)))|((try apply Or.inl);refine⟨_,aj.x (OI) (sd @ab.eq_1),?_⟩;refine hN _ _ ?_;clear hN N)|((try apply Or.inl);refine⟨_,aj.x (Ra) (sd @ab.eq_1),?_⟩;refine hN _ _ ?_;clear hN N)|((try apply Or.inl);refine⟨_,aj.x (dK) (sd @ab.eq_1),?_⟩;refine hN _ _ ?_;clear hN N)))
   exact jC (.inl rfl) (r1:=.bool false) (r2:=.int .i64 4) (sd @Nat.zero_add) (sd @Nat.zero_add) (by rw[lJ,if_pos uY];simp only[eY,bD,cF,fo,eQ,Option.map_some])
  ·rw[decide_eq_true uY,<-hsy]at dK
   (repeat(first|((repeat(revert hN;revert N;apply Pn.out));refine wk @ab.eq_1 ?_;(repeat(refine Pn.mk ?_;intro N hN)))|((try apply Or.inl);refine⟨_,aj.x (OI) (sd @ab.eq_1),?_⟩;refine hN _ _ ?_;clear hN N)|((try apply Or.inl);refine⟨_,aj.x (Ra) (sd @ab.eq_1),?_⟩;refine hN _ _ ?_;clear hN N)|((try apply Or.inl);refine⟨_,aj.x (dK) (sd @ab.eq_1),?_⟩;refine hN _ _ ?_;clear hN N)))
   exact jC (.inl rfl) (r1:=.bool (lv s)) (r2:=.int .i64 0) (sd @Nat.zero_add) (sd @Nat.zero_add) (by rw[if_neg uY];simp only[eY,bD,cF,fo,eQ,Option.map_some])
 generalize hcode:(if rK s.aD&&kM s.aD s.aX.ae then(if jf s.aA 1 16 then(if 64<iG s.aD s.aX.ae s.aA then(4:Int)else 0)else 2)else 1)=code at key
 rw[ab]at key
 cases hB:lv s
 ·rw[hB]at key
  (repeat(first|((repeat(revert hN;revert N;apply Pn.out));refine wk (tw @au.eq_1 @hd) ?_;(repeat(refine Pn.mk ?_;intro N hN)))|((try apply Or.inl);refine⟨_,aj.x (key) (sd (tw @au.eq_1 @hd)),?_⟩;refine hN _ _ ?_;clear hN N)))
  exact aU (b:=false) (.inl rfl) (sd @Nat.zero_add) rfl
 ·rw[hB]at key
  have hP:=ko.1 hB
  have hc:code=0:=by
   rw[<-hcode,mW.2 hP.set,gi.2 hP.rJ,hP.HH]
   have:=hP.holds.1
   simp only[Bool.and_self,if_true]
   rw[if_neg (by unfold iG;omega)]
  rw[hc]at key
  (repeat(first|((repeat(revert hN;revert N;apply Pn.out));refine wk (tw @au.eq_1 @hd) ?_;(repeat(refine Pn.mk ?_;intro N hN)))|((try apply Or.inl);refine⟨_,aj.x (key) (sd (tw @au.eq_1 @hd)),?_⟩;refine hN _ _ ?_;clear hN N)))
  exact aU (b:=true) (.inl rfl) (sd @Nat.zero_add) rfl
end Go.Proofs.YtgoljkjaameagaaGreat.V

namespace Go.Proofs.YtgoljkjaameagaaGreat.V
open Go.RowKit
variable {P:Program} {hs:Nat}
theorem HQ {q n i:Nat} {ops:Array Oper} {Q:Exit->Act->World->Prop} {K K':Act->World->Prop} {a:Act} {w:World} (mM:∀(j:Nat) (o:Oper),ops[j]? =some o->∀c,o.op≠.defer c) (lJ:¬LetsOut Q) (hK:∀a w,K a w->K' a w) (h:wpOp P ops Q i K a w):wpOpIn (Fence.wide.inRound q) n P ops Q i K' a w:=by
 unfold wpOp at h
 unfold wpOpIn
 split at h
 ·rename_i ho;simp only[ho];exact hK _ _ h
 ·rename_i o ho
  simp only[ho]
  split at h
  ·rename_i hw
   rw[if_pos hw]
   replace h:=h.resolve_right fun hc=>lJ hc.2
   refine⟨fun _ _=>trivial,?_⟩
   rw[Oper.semAt_eq _ _ _ (mM i o ho)]
   unfold Oper.wp at h
   generalize (execOp a.eval o).run P w=r at *
   cases r with
   |ok m w'=>
    cases m<;>simp only[Oper.upon,Oper.uponIn]at h ⊢
    case value=>exact hK _ _ h
    case skip=>exact hK _ _ h
    case defer=>exact hK _ _ h
    case enter f args=>
     refine⟨fun h=>by simp[Fence.wide]at h,CallsIn.inRound q (callsIn_wide.2 (h.mono fun e Lk he=>?_))⟩
     cases e with
     |returned v=>exact hK _ _ he
     |panicked c=>exact he
     |outgrown=>exact he
    case row r args=>exact⟨fun h=>by simp[Fence.wide]at h,fun c cs _=>let ⟨v,Lk,h1,s⟩:=h c cs;⟨v,Lk,hK _ _ h1,stepsIn_wide.2 s⟩⟩
   |halt x w'=>cases x<;>simp only[Oper.upon,Oper.uponIn]at h ⊢;exact h
  ·rename_i hw
   rw[if_neg hw]
   exact⟨fun _ _=>trivial,hK _ _ h⟩
theorem xU {q n:Nat} {md:Region.Mode} {ops:Array Oper} {Q:Exit->Act->World->Prop} (mM:∀(j:Nat) (o:Oper),ops[j]? =some o->∀c,o.op≠.defer c) (lJ:¬LetsOut Q):∀(fuel:Nat) (listed:Array Bool) (a:Act) (w:World),wpAny P md ops Q fuel listed a w->wpAnyIn (Fence.wide.inRound q) n P md ops Q fuel listed a w
 |0,_,_,_,h=>h
 |fuel+1,listed,_,_,h=>⟨h.1,fun i hi=>HQ mM lJ (fun a w=>xU mM lJ fuel _ a w) (h.2 i hi)⟩
def FU:Op->Bool
 | .defer _=>true
 |_=>false
theorem JX {ops:Array Oper} (h:(ops.all fun o=> !FU o.op)=true):∀(j:Nat) (o:Oper),ops[j]? =some o->∀c,o.op≠.defer c:=fun j o hj c hc=>by
 have:=Array.all_eq_true_iff_forall_mem.1 h o (Array.mem_of_getElem? hj)
 rw[hc]at this
 simp[FU]at this
theorem AI (hm:P.follows .mixedOrders=true) {nt site0 id q n:Nat} {ops:Array Oper} {vl:List bj} (h:r6 P nt site0 ops true false=some vl) (mM:∀(j:Nat) (o:Oper),ops[j]? =some o->∀c,o.op≠.defer c)
  {K:Env->ar->Prop} {env:Env} {σ:ar} {a:Act} {w:World} {D:Nat->Prop} {ι:Names} {Q:Exit->Act->World->Prop} (hv:wpOps (Sound P) true vl K env σ) (dK:St P hs nt D ι env σ a w)
  (hK:∀iP σ' a' w' D' ι',K iP σ'->Step hs D ι w D' ι' w'->St P hs nt D' ι' iP σ' a' w'->a'.defers=a.defers->Q .normal a' w'):(Code.region id ops true).wpIn (Fence.wide.inRound q) n P Q a w:=by
 have dE:∃hidden ud,allM (kY P ops nt site0 true false (jG ops) hidden) ops.toList 0=some ud/\vl=ud/\pc ops ud (jG ops)=true:=by
  unfold r6 at h
  simp only[if_true,Bool.not_true,Bool.false_or]at h
  split at h
  ·rename_i ud h'
   split at h
   ·rename_i w5;simp at h;exact⟨_,ud,h',h.symm,w5⟩
   ·cases h
  ·cases h
 obtain⟨hidden,ud,dE,rfl,w5⟩:=dE
 obtain⟨sn,T0⟩:=dK.drew
 obtain⟨hlen,_⟩:=oZ dE
 have k9:vl.length=ops.size:=by rw[hlen];simp
 have DV:=xT (X:=Sound P) (K:=K) (n:=σ.next) w5 k9 vl 0 (Array.replicate ops.size false) env σ.get (by simp) (by simp) (fun i hi=>by simp[hi]) (by simp[k9]) (fun k i h=>by
  exfalso
  rcases Nat.lt_or_ge k ops.size with hk|hk
  ·simp[hk]at h
  ·simp[Nat.not_lt.2 hk]at h) hv
 rw[k9]at DV
 have hw:=yL (Q:=fun e a w=>e=.normal/\Q .normal a w) dE ops.size _ env σ.get a w.drew D ι (fun _=>False) DV sn.tW sn.used (fun _ h=>h.elim) sn.env sn.size fun jl g1 a1 w1 D1 ι1 U1 hk T S1 TU E1 Bo hd=>⟨rfl,hK jl ⟨g1,σ.next+1⟩ a1 w1 D1 ι1 hk (T0.trans T) ⟨S1,TU.next,E1,Bo⟩ hd⟩
 have fB:=xU (q:=q) (n:=n) (Q:=fun e a w=>e=.normal/\Q .normal a w) mM (by rintro⟨_,_,hc,_⟩;cases hc) ops.size _ a w.drew hw
 refine wpIn_mono (wpIn_region_any (id:=id) hm fB) ?_
 rintro e a w ⟨rfl,h⟩
 exact h
end Go.Proofs.YtgoljkjaameagaaGreat.V

namespace Go.Proofs.YtgoljkjaameagaaGreat.V
open Go.RowKit Go.Shelf
attribute [local go_sem] Oper.semAt_some
def iz (n₀:Nat) (W W':World):Prop:=W.heap.size<=W'.heap.size/\(∀(b:Nat) (cells:Array Value) (T:TypeId) (fr:Nat×Nat),W.heap[b]? =some (Obj.cells cells T fr)->T≠179->T≠254->W'.heap[b]? =W.heap[b]?)/\∀k,k<n₀->k<W.heap.size->W'.heap[k]? =W.heap[k]?
theorem iz.trans {n₀:Nat} {A B C:World} (h:iz n₀ A B) (k:iz n₀ B C):iz n₀ A C:=⟨Nat.le_trans h.1 k.1,fun b cells T fr hb h1 h2=>by
 have e:=h.2.1 b cells T fr hb h1 h2
 rw[<-e]at hb ⊢
 exact k.2.1 b cells T fr hb h1 h2,fun b hb hs=>(k.2.2 b hb (Nat.lt_of_lt_of_le hs h.1)).trans (h.2.2 b hb hs)⟩
theorem iz.of {n₀:Nat} {W W':World} (h:Below W.heap.size W W'):iz n₀ W W':=⟨h.size,fun b cells T fr hb _ _=>h.block b (Array.getElem?_eq_some_iff.1 hb).1,fun k _ hs=>h.block k hs⟩
theorem iz.refl (n₀:Nat) (W:World):iz n₀ W W:=⟨Nat.le_refl _,fun _ _ _ _ _ _ _=>rfl,fun _ _ _=>rfl⟩
theorem iz.b {n₀ m:Nat} (hm:n₀<=m) (W:World) (l:Nat) (o o':Obj) (hl:m<=l) (h:W.heap[l]? =some o) (hc:o.isCells=false) (_:o.isWalk=false):iz n₀ W (W.putObj l o'):=by
 refine⟨by simp,fun b cells T fr hb _ _=>?_,fun k hk _=>World.putObj_heap_other (by omega)⟩
 by_cases qC:b=l
 ·subst qC;rw[h]at hb;cases hb;cases hc
 ·exact World.putObj_heap_other qC
def Ls (bs:List PB):List Value:=bs.flatMap fun b=>[.int .i64 b.a,.int .i64 b.b,.int .i64 b.s]
theorem Iu (bs:List PB) (b:PB):Ls (bs++[b])=Ls bs++[.int .i64 b.a,.int .i64 b.b,.int .i64 b.s]:=by simp[Ls]
def ot (s:aw) (l:List ad) (pre:List (NV l)):List PB:=(pre.map (·.1)).flatMap (zT s l)
theorem yO (s:aw) (l:List ad) (pre:List (NV l)) (x:NV l):ot s l (pre++[x])=ot s l pre++zT s l x.1:=by simp[ot]
theorem It (s:aw) (l:List ad) (x:Nat×Nat×Int):(zT s l x).length<=1:=by
 unfold zT;split<;>simp
theorem Iv (s:aw) (l:List ad) (pre:List (NV l)):(ot s l pre).length<=pre.length:=by
 unfold ot
 induction pre with
 |nil=>simp
 |cons x r ih=>
  have:=It s l x.1
  simp only[List.map_cons,List.flatMap_cons,List.length_append,List.length_cons]at ih ⊢
  omega
theorem zu (l:List ad) (i:Nat):∀m,(lj l i m).length<=m
 |0=>by simp[lj]
 |m+1=>by
  rw[nE,List.length_append]
  have:=zu l i m
  have:(CG l i (1-(m:Int))).length<=1:=by unfold CG;split<;>simp
  omega
theorem CH (l:List ad):∀n,(lL l n).length<=n*2
 |0=>by simp[lL]
 |n+1=>by
  rw[mU,List.length_append]
  have:=CH l n
  have:=zu l n 2
  omega
theorem B8 {β:Type} (B:Nat) (c:Array Value) (t:TypeId) (fr:Nat×Nat):Own (fun(_:β) W=>W.heap[B]? =some (.cells c t fr)):=fun _ X _ row h hg hr=>(hg.block B (Array.getElem?_eq_some_iff.1 h).1 (fun e=>by
 obtain⟨o,ho,hc⟩:=hr B e.symm
 rw[h]at ho;cases ho;cases hc)).trans h
theorem iz.app {n₀:Nat} {W w1:World} {B k:Nat} {v v':Value} {xs:List Value} {tmp:Obj} (hv:Boxed W B 179 v) (fV:W.ownsRow n₀ 254 3 v k xs) (FI:(W.alloc tmp).grownBy w1 v.ownBlock) (hb:Below n₀ W (w1.setCell ⟨B,0,none⟩ v')):iz n₀ W (w1.setCell ⟨B,0,none⟩ v'):=by
 refine⟨hb.size,fun b cells T fr h h1 h2=>?_,fun k hk _=>hb.block k hk⟩
 have dY:=(Array.getElem?_eq_some_iff.1 h).1
 have hbB:b≠B:=by
  rintro rfl
  rw[show W.heap[b]? = _ from hv]at h
  cases h
  exact h1 rfl
 have S5:some b≠v.ownBlock:=by
  rcases fV.2 with⟨rfl,_⟩|⟨g,cap,cur,rfl,_,hg,_⟩
  ·simp[Value.ownBlock]
  ·intro e
   obtain rfl:b=g:=by simpa[Value.ownBlock]using e
   rw[hg]at h;cases h
   exact h2 rfl
 refine(Below.heap_setCell w1 ⟨B,0,none⟩ v' b hbB).trans ?_
 exact(FI.block b (by simp;omega) S5).trans (Below.heap_alloc W tmp b dY)
theorem R6 {w:World} {vS:Value} {l:List ad} (hP:qn w vS l):Ie (iz w.heap.size) vS l where
 refl:=iz.refl _
 trans:=iz.trans
 of:=iz.of
 size h:=h.1
 typed h:=h.2.1
 pl {W W'} h hp:=by
  obtain⟨A,c,rfl,hm,hc⟩:=hp.sl
  refine⟨A,c,rfl,hm,?_⟩
  by_cases hl:l=[]
  ·exact .inl hl
  have kF:0<l.length:=List.length_pos_iff.2 hl
  rcases hc with h0|⟨b,o,rfl,kI⟩
  ·exact absurd h0 hl
  obtain⟨A',c',e,_,k8⟩:=hP.sl
  cases e
  rcases k8 with h0|⟨b',o',e,hcell'⟩
  ·exact absurd h0 hl
  cases e
  have hb:=vp (hcell' 0 kF).1
  have hk:=h.2.2 b hb (vp (kI 0 kF).1)
  refine .inr ⟨b,o,rfl,fun i hi=>?_⟩
  have Ah:∀x,W'.cell? ⟨b,x,none⟩=W.cell? ⟨b,x,none⟩:=fun x=>World.cell?_of_block hk
  rw[Ah,Ah,Ah]
  exact kI i hi
theorem rrE {P:Program} {nt site0:Nat} {ops:Array Oper} {vl:List bj} (_:zV P ops site0 false (jG ops) (sC P false ops.toList 0) ops.toList 0=some vl:=by(conv=>lhs;cbv)<;>exact rfl) (h:r6 P nt site0 ops true false=some vl:=by kernel_rfl):r6 P nt site0 ops true false=some vl:=h
theorem JO (l:List Value) (d:Value):l=(List.range l.length).map fun i=>(⟨l⟩:Array Value).getD i d:=by
 refine List.ext_getElem (by simp) fun i h1 h2=>?_
 simp[h1]
theorem EB {X:fN} {d:Bool} {ops:List bj} {K:Env->ar->Prop} {env:Env} {σ:ar} (h:dL X (.eL d ops) (fun _=>K) env σ):wpOps X d ops K env σ:=h
theorem wE (W:World) (T:TypeId) (x y z:Value):∀(j:Nat) (u:Value),[x,y,z][j]? =some u->(W.alloc (.cells #[x,y,z] T)).cell? ((⟨W.heap.size,0,none⟩:Addr).add j)=some u:=fun j u h=>by
 have hb:(W.alloc (.cells #[x,y,z] T)).heap[W.heap.size]? =some (.cells #[x,y,z] T (0,0)):=World.alloc_heap_new _ _
 have e:∀k,(W.alloc (.cells #[x,y,z] T)).cell? ⟨W.heap.size,k,none⟩=(#[x,y,z]:Array Value)[k]? :=fun k=>by
  unfold World.cell?
  rw[show(W.alloc (.cells #[x,y,z] T)).heap[(⟨W.heap.size,k,none⟩:Addr).block]? = _ from hb]
  rfl
 rw[show(⟨W.heap.size,0,none⟩:Addr).add j=⟨W.heap.size,j,none⟩ by simp[Addr.add];exact fun h=>h.symm,e]
 simpa using h
def IB (n b:Nat):Names:=fun id=>if id=⟨1,0⟩then some ⟨n,2,2,none⟩else if id=⟨2,0⟩then some ⟨n+1,1,1,none⟩else if id=⟨3,0⟩then some ⟨n+1+1,1,1,none⟩else if id=⟨4,0⟩then some ⟨b,2,2,none⟩else if id=⟨5,0⟩then some ⟨n+1+1+1,1,1,none⟩else none
def Nb (s:aw) (l:List ad) (i k:Nat):Rows:=fun id=>if id=⟨1,0⟩then some ⟨false,2,[ab s]⟩else if id=⟨2,0⟩then some ⟨false,1,[[.sl (l.map aa)]]⟩else if id=⟨4,0⟩then some ⟨false,2,[[.int .i64 (i:Int),.int .i64 (k:Int)]]⟩else none
def N7 (s:aw) (l:List ad) (i k:Nat) (d:Int):Env:=cD [.agg (ab s),.agg [.sl (l.map aa)],.ptr ⟨1,0⟩ 0 0,.ptr ⟨2,0⟩ 0 0,.cC,.ptr ⟨3,0⟩ 0 0,.ptr ⟨4,0⟩ 0 0,.int .i64 d,.undef,.agg [.sl (l.map aa)],.fn 302 [.ptr ⟨5,0⟩ 0 0],.agg [.int .i64 (i:Int),.int .i64 (k:Int)],.int .i64 d]
theorem EL {P:Program} {W:World} {D:Nat->Prop} {ι:Names} {B:s9} {cells:Array Value} {T:TypeId} {cs:List AV} (hk:B.k=none) (hb:W.heap[B.b]? =some (.cells cells T (0,0))) (hC:cells.size=B.C) (hz:B.sz=cs.length) (hl:cs.length=cells.size) (hf:∀a∈cs,a.cell=true) (hr:∀(j:Nat) (a:AV),cs[j]? =some a->∃v,cells[j]? =some v/\cL P W D ι a v):gR P W D ι B ⟨false,cs.length,[cs]⟩:=
 lR.obj ⟨hz,⟨cells,T,hb,hC⟩,by simp;omega,fun c hc=>by simp at hc;rw[hc],fun c hc=>by simp at hc;rw[hc];exact hf,fun i j c a hi hj=>by
  match i,hi with
  |0,hi=>
   simp at hi;subst hi
   obtain⟨v,h1,h2⟩:=hr j a hj
   exact⟨v,by simp[World.cell?,hb,h1],h2⟩
  |i+1,hi=>simp at hi⟩ hk
theorem JC:(Tryz.prog.info? 254).map (fun i=>(i.zero,i.size,i.bytes))=some (some (.agg #[.int .i64 0,.int .i64 0,.int .i64 0]),3,24):=by kernel_rfl
end Go.Proofs.YtgoljkjaameagaaGreat.V

namespace Go.Proofs.YtgoljkjaameagaaGreat.V
open Go.RowKit Go.Shelf
attribute [local go_sem] Oper.semAt_some
attribute [local irreducible] dL wpOps gC Call
attribute [local go_sem] aO fM eS ga fZ cU upd cD K.av cR AV.cells AV.cell rowOf rowsOf part ld rowAt bt cw dG ei iu bK dm eB fY e6 dt ep di dh dV dW bU bd cZ bQ db da ek er eo cY ck dj ej bP aQ dd cJ iq br cN bV aZ dr bc dH AV.undef bF bJ dX eh dR dO cK eA eC cI ev eu dc de List.getD_cons_zero List.getD_cons_succ List.getD_nil List.all_cons List.all_nil Bool.and_true Bool.true_and Bool.and_self Bool.not_true Bool.not_false Option.map_some Option.map_none Option.bind_some Option.bind_none List.length_cons List.length_nil List.take_succ_cons List.take_zero List.take_nil List.drop_succ_cons List.drop_zero List.drop_nil List.head?_cons List.map_cons List.map_nil List.getElem?_cons_zero List.getElem?_cons_succ List.cons_append List.nil_append List.append_nil List.length_map List.set_cons_zero List.set_cons_succ Nat.reduceMul eq_self Int.toNat_natCast Int.natCast_nonneg and_self true_and and_true decide_true decide_false Bool.false_eq_true Nat.zero_add Nat.add_zero List.contains_cons List.contains_nil Bool.or_false Bool.false_or beq_self_eq_true Nat.reduceBEq ne_eq not_true_eq_false not_false_eq_true Id.mk.injEq false_and and_false Nat.reduceLT Int.reduceLE Int.reduceLT Int.reduceToNat Int.reduceNeg Int.reduceAdd Nat.le_refl List.length_append beq_true beq_false Bool.not_eq_eq_eq_not or_false false_or dP ai aq aI bh bE cz aY bl aV bf cW bH
theorem Iz (s:aw) (l:List ad) (hF:kU s) (hA:jc s l) (w:World) (Ag At:Option Addr) (ng cg nt ct:Nat) (vS:Value) (hT:jL Tryz.prog w (fun b=>b<w.heap.size) (.agg (ab s)) (.agg #[.slice Ag ng cg,.slice At nt ct])) (hP:qn w vS l):
  CallsIn Fence.wide 5 Tryz.prog 205 #[.agg #[.slice Ag ng cg,.slice At nt ct],.agg #[vS]] w fun e W'=>∃v,e=.returned v/\W'.ownsRow w.heap.size 254 3 v (cP s l).length (Ls (cP s l))/\(v=.slice none 0 0↔cP s l=[])/\Below w.heap.size w W':=by
 obtain⟨A,cp,rfl,_,_⟩:=hP.sl
 obtain⟨i0,hi,H5,Bo,lH⟩:=info_parts JC
 refine callsIn_of_wp_marks Tryz.func205 rfl trivial ?_ rfl
 simp only[Tryz.ntmps205,List.size_toArray,List.length_cons,List.length_nil,Nat.reduceAdd,Nat.reduceSub,Array.replicate_succ,Array.replicate_zero,List.push_toArray,List.append_toArray,List.nil_append,List.cons_append]
 gi_wp2_with (refine⟨trivial,?_⟩;gi_at_call 260;refine(AB _ _ _).mono ?_;rintro e w' ⟨rfl,rfl⟩)
 have bT:((w.alloc (.cells #[.slice Ag ng cg,.slice At nt ct] 39)).heap[w.heap.size]?)=some (.cells #[.slice Ag ng cg,.slice At nt ct] 39 (0,0)):=World.alloc_heap_new _ _
 obtain⟨w1,oL⟩:∃w1,w.alloc (.cells #[.slice Ag ng cg,.slice At nt ct] 39)=w1:=⟨_,rfl⟩
 have QE:w1.heap.size=w.heap.size+1:=by rw[<-oL];simp
 have Bk:Below w.heap.size w w1:=by rw[<-oL];exact(Below.refl _ w).alloc (Nat.le_refl _) _
 rw[oL]at bT ⊢
 clear oL
 have bA:=Boxed.new w1 42 (.slice A l.length cp)
 have bO:=Boxed.new (w1.alloc (.cells #[.slice A l.length cp] 42)) 179 (.slice none 0 0)
 have bN:=Boxed.new ((w1.alloc (.cells #[.slice A l.length cp] 42)).alloc (.cells #[.slice none 0 0] 179)) 42 (.slice A l.length cp)
 replace bA:=(bA.alloc (.cells #[.slice none 0 0] 179)).alloc (.cells #[.slice A l.length cp] 42)
 replace bO:=bO.alloc (.cells #[.slice A l.length cp] 42)
 simp only[World.size_alloc,QE]at bA bO bN
 have qp:Below w1.heap.size w1 (((w1.alloc (.cells #[.slice A l.length cp] 42)).alloc (.cells #[.slice none 0 0] 179)).alloc (.cells #[.slice A l.length cp] 42)):=(((Below.refl _ w1).alloc (Nat.le_refl _) _).alloc (by simp) _).alloc (by simp;omega) _
 have fw:(((w1.alloc (.cells #[.slice A l.length cp] 42)).alloc (.cells #[.slice none 0 0] 179)).alloc (.cells #[.slice A l.length cp] 42)).heap.size=w.heap.size+4:=by simp;omega
 obtain⟨W0,hW0⟩:∃W0,((w1.alloc (.cells #[.slice A l.length cp] 42)).alloc (.cells #[.slice none 0 0] 179)).alloc (.cells #[.slice A l.length cp] 42)=W0:=⟨_,rfl⟩
 rw[hW0]at bA bO bN qp fw ⊢
 clear hW0
 have B6:Below w.heap.size w W0:=Bk.trans (qp.mono (by omega))
 replace bT:=(qp.block w.heap.size (by omega)).trans bT
 have Ux:qn W0 (.slice A l.length cp) l:=hP.below B6
 have kl:=R6 hP
 have qC:=qK (s:=s) hA.1
 refine wpIn_rangeFunc_ownH (n:=5) rfl (by omega) (gf:=302) (lb:= #[.pointer (some ⟨w.heap.size+1+1+1,0,none⟩)]) rfl trivial (enters_of Tryz.func302 (by kernel_rfl) rfl)
  (JV l hA.1 (w.heap.size+1+1+1) (5-1) (by omega) (.slice A l.length cp) (iz w.heap.size) kl W0 bN Ux) iz.trans (iz.b (by omega)) (Below.refl _ _) (fun _=>rfl)
  (fun pre W=>((∃v,Boxed W (w.heap.size+1+1) 179 v/\W.ownsRow w.heap.size 254 3 v (ot s l pre).length (Ls (ot s l pre))/\(v=.slice none 0 0↔ot s l pre=[]))/\(Boxed W (w.heap.size+1) 42 (.slice A l.length cp)/\W.heap[w.heap.size]? =some (.cells #[.slice Ag ng cg,.slice At nt ct] 39 (0,0))))/\Below w.heap.size w W)
  (fun _ _ _=>False)
  (OwnFrom.and (OwnFrom.and (Own.from (holdsRow_own w.heap.size (w.heap.size+1+1) 179 254 3 (fun pre=>(ot s l pre).length) (fun pre=>Ls (ot s l pre)) (fun pre v=>v=.slice none 0 0↔ot s l pre=[])) _) (OwnFrom.and (Own.from (boxed_own _ _ _) _) (Own.from (B8 _ _ _ _) _))) (ownFrom_below (Nat.le_refl _) (by omega)))
  (fun _ _ _ _ _ hs _ _=>hs)
  ⟨⟨⟨_,bO,World.ownsRow_nil _ _ _ _,by simp[ot]⟩,bA,bT⟩,B6⟩
  (fun x a' W=>∃Bx,w.heap.size+1+1<Bx/\W.heap[Bx]? =some (.cells #[.int .i64 (x.1.1:Int),.int .i64 (x.1.2.1:Int)] 322 (0,0))/\a'={tmps:= #[.agg #[.slice Ag ng cg,.slice At nt ct],.agg #[.slice A l.length cp],.pointer (some ⟨w.heap.size,0,none⟩),.pointer (some ⟨w.heap.size+1,0,none⟩),.slice none 0 0,.pointer (some ⟨w.heap.size+1+1,0,none⟩),.pointer (some ⟨Bx,0,none⟩),.int .i64 x.1.2.2,undef,.agg #[.slice A l.length cp],.func (.func 302) #[] #[.pointer (some ⟨w.heap.size+1+1+1,0,none⟩)],.agg #[.int .i64 (x.1.1:Int),.int .i64 (x.1.2.1:Int)],.int .i64 x.1.2.2,undef,undef,undef,undef,undef,undef,undef,undef,undef,undef,undef,undef,undef,undef,undef,undef,undef,undef,undef,undef,undef,undef,undef,undef,undef,undef,undef,undef,undef],defers:=[]})
  (fun x a' _ X Y row hs hg hr=>by obtain⟨Bx,h1,h2,h3⟩:=hs;exact⟨Bx,h1,B8 Bx _ _ _ () X Y row h2 hg (fun r e=>(hr r e).2),h3⟩)
  ?assign ?body ?done ?stop
 case assign=>
  rintro q pre ⟨⟨x0,x1,x2⟩,hx⟩ W K ⟨⟨⟨v,hv,fV,hnil⟩,bA1,bT1⟩,hB⟩ hK
  simp only[Fx]
  gi_wp2
  exact hK _ _ ((KeepsOthers.alloc _ _).from _) (iz.of ((Below.refl _ W).alloc (Nat.le_refl _) _)) ⟨⟨⟨v,hv.alloc _,fV.alloc _,hnil⟩,bA1.alloc _,(Below.heap_alloc _ _ _ (Array.getElem?_eq_some_iff.1 bT1).1).trans bT1⟩,hB.alloc hB.size _⟩ ⟨W.heap.size,hv.lt,World.alloc_heap_new _ _,rfl⟩
 case body=>
  rintro q pre ⟨⟨x0,x1,x2⟩,hx⟩ a' W hq hqr ⟨⟨⟨v,hv,fV,hnil⟩,bA1,bT1⟩,hB⟩ ⟨Bx,hBx,bX,rfl⟩ dY
  obtain⟨Dk,JB,ze⟩:=hx
  simp only at Dk JB ze bX
  obtain⟨A',c',e',_,hc⟩:=(hP.below hB).sl
  cases e'
  have dx:∃b o,A=some ⟨b,o,none⟩/\W.cell? ⟨b,o+x0*3+2,none⟩=some (.int .i64 (aL l x0).aT)/\W.cell? ⟨b,o+x1*3+2,none⟩=some (.int .i64 (aL l x1).aT):=by
   rcases hc with rfl|⟨b,o,rfl,kI⟩
   ·simp at Dk
   ·exact⟨b,o,rfl,by rw[Nat.add_assoc];exact(kI x0 Dk).2.2,by rw[Nat.add_assoc];exact(kI x1 JB).2.2⟩
  obtain⟨b,o,rfl,cP0,cP1⟩:=dx
  have cT0:W.cell? ⟨w.heap.size,0,none⟩=some (.slice Ag ng cg):=by simp[World.cell?,bT1]
  have cT1:W.cell? ⟨w.heap.size,1,none⟩=some (.slice At nt ct):=by simp[World.cell?,bT1]
  have cX0:W.cell? ⟨Bx,0,none⟩=some (.int .i64 (x0:Int)):=by simp[World.cell?,bX]
  have cX1:W.cell? ⟨Bx,1,none⟩=some (.int .i64 (x1:Int)):=by simp[World.cell?,bX]
  have cA:=bA1.cell
  have dP0:W.drew.cell? ⟨b,o+x0*3+2,none⟩=some (.int .i64 (aL l x0).aT):=cP0
  have dP1:W.drew.cell? ⟨b,o+x1*3+2,none⟩=some (.int .i64 (aL l x1).aT):=cP1
  have dT0:W.drew.cell? ⟨w.heap.size,0,none⟩=some (.slice Ag ng cg):=cT0
  have dT1:W.drew.cell? ⟨w.heap.size,1,none⟩=some (.slice At nt ct):=cT1
  have dX0:W.drew.cell? ⟨Bx,0,none⟩=some (.int .i64 (x0:Int)):=cX0
  have dX1:W.drew.cell? ⟨Bx,1,none⟩=some (.int .i64 (x1:Int)):=cX1
  have dA:W.drew.cell? ⟨w.heap.size+1,0,none⟩=some (.slice (some ⟨b,o,none⟩) l.length cp):=cA
  have tF:∀i,i<l.length->aL l i∈l:=fun i hi=>by
   unfold aL
   rw[List.getD_eq_getElem?_getD,List.getElem?_eq_getElem hi]
   exact List.getElem_mem hi
  have U8:=mixed
  have hfw:=hA.1.oJ
  have S6:=Iy s hF (aL l x0).aT x2 (aL l x1).aT (hA.2 _ (tF x0 Dk)) (hA.2 _ (tF x1 JB)) (lf (by omega))
  have hTW:jL Tryz.prog W (fun b=>b<w.heap.size) (.agg (ab s)) (.agg #[.slice Ag ng cg,.slice At nt ct]):=hT.frame (fun b hb=>hB.block b hb) (fun _ h=>h)
  have hAW:jL Tryz.prog W (fun b=>b<w.heap.size) (.sl (l.map aa)) (.slice (some ⟨b,o,none⟩) l.length cp):=hP.eP.frame (fun b hb=>hB.block b hb) (fun _ h=>h)
  obtain⟨fT,hT0,hT1⟩:∃f:Nat->Value,(∀j,j<(ab s).length->(#[Value.slice Ag ng cg,.slice At nt ct])[j]? =some (f j))/\∀j a,(ab s)[j]? =some a->jL Tryz.prog W (fun b=>b<w.heap.size) a (f j):=by
   cases hTW with
   |agg _ _ f _ _ h3 h4=>exact⟨f,h3,h4⟩
  have dK:St Tryz.prog W.heap.size 42 (fun b=>b<w.heap.size) (IB w.heap.size Bx) (N7 s l x0 x1 x2) ⟨Nb s l x0 x1,1⟩ {tmps:= #[.agg #[.slice Ag ng cg,.slice At nt ct],.agg #[.slice (some ⟨b,o,none⟩) l.length cp],.pointer (some ⟨w.heap.size,0,none⟩),.pointer (some ⟨w.heap.size+1,0,none⟩),.slice none 0 0,.pointer (some ⟨w.heap.size+1+1,0,none⟩),.pointer (some ⟨Bx,0,none⟩),.int .i64 x2,undef,.agg #[.slice (some ⟨b,o,none⟩) l.length cp],.func (.func 302) #[] #[.pointer (some ⟨w.heap.size+1+1+1,0,none⟩)],.agg #[.int .i64 (x0:Int),.int .i64 (x1:Int)],.int .i64 x2,undef,undef,undef,undef,undef,undef,undef,undef,undef,undef,undef,undef,undef,undef,undef,undef,undef,undef,undef,undef,undef,undef,undef,undef,undef,undef,undef,undef,undef],defers:=[]} W:=by
   have n1:(IB w.heap.size Bx) ⟨1,0⟩=some ⟨w.heap.size,2,2,none⟩:=rfl
   have n2:(IB w.heap.size Bx) ⟨2,0⟩=some ⟨w.heap.size+1,1,1,none⟩:=rfl
   have n3:(IB w.heap.size Bx) ⟨3,0⟩=some ⟨w.heap.size+1+1,1,1,none⟩:=rfl
   have n4:(IB w.heap.size Bx) ⟨4,0⟩=some ⟨Bx,2,2,none⟩:=rfl
   have n5:(IB w.heap.size Bx) ⟨5,0⟩=some ⟨w.heap.size+1+1+1,1,1,none⟩:=rfl
   have rp:∀(id:Id) (B:s9),(IB w.heap.size Bx) id=some B->B.k=none->cL Tryz.prog W (fun b=>b<w.heap.size) (IB w.heap.size Bx) (.ptr id 0 0) (.pointer (some ⟨B.b,0,none⟩)):=fun id B h hk=>by
    have:=cL.ptr (P:=Tryz.prog) (w:=W) (D:=fun b=>b<w.heap.size) id 0 0 B h hk
    simpa using this
   have ri:∀n:Int,cL Tryz.prog W (fun b=>b<w.heap.size) (IB w.heap.size Bx) (.int .i64 n) (.int .i64 n):=fun n=>.eP _ _ (.int _ _)
   have hA1:jL Tryz.prog W (fun b=>b<w.heap.size) (.agg [.sl (l.map aa)]) (.agg #[.slice (some ⟨b,o,none⟩) l.length cp]):=.agg _ _ (fun _=>.slice (some ⟨b,o,none⟩) l.length cp) rfl (fun a ha=>by simp at ha;rw[ha];rfl) (fun j hj=>by match j,hj with|0,_=>rfl|j+1,hj=>simp at hj) (fun j a ha=>by match j,ha with|0,ha=>simp at ha;subst ha;exact hAW|j+1,ha=>simp at ha)
   refine⟨⟨Nat.le_refl _,fun b hb=>Nat.lt_of_lt_of_le hb hB.size,fun id r hg=>?_,fun id kb r r' B B' h _ hw=>?_⟩,fun id hid=>?_,fun t=>?_,rfl⟩
   ·replace hg:Nb s l x0 x1 id=some r:=hg
    unfold Nb at hg
    split at hg
    ·rename_i e;subst e;injection hg with hg;subst hg
     exact⟨_,n1,EL (cs:=ab s) rfl bT1 rfl rfl rfl (fun a ha=>by simp[ab]at ha;rcases ha with rfl|rfl<;>rfl) (fun j a ha=>⟨_,hT0 j (List.getElem?_eq_some_iff.1 ha).1,.eP _ _ (hT1 j a ha)⟩),fun h=>(by cases h),fun h=>(by cases h)⟩
    ·split at hg
     ·rename_i e;subst e;injection hg with hg;subst hg
      exact⟨_,n2,EL (cs:=[.sl (l.map aa)]) rfl bA1 rfl rfl rfl (fun a ha=>by simp at ha;rw[ha];rfl) (fun j a ha=>by match j,ha with|0,ha=>simp at ha;subst ha;exact⟨_,rfl,.eP _ _ hAW⟩|j+1,ha=>simp at ha),fun h=>(by cases h),fun h=>(by cases h)⟩
     ·split at hg
      ·rename_i e;subst e;injection hg with hg;subst hg
       exact⟨_,n4,EL (cs:=[.int .i64 (x0:Int),.int .i64 (x1:Int)]) rfl bX rfl rfl rfl (fun a ha=>by simp at ha;rcases ha with rfl|rfl<;>rfl) (fun j a ha=>by match j,ha with|0,ha=>simp at ha;subst ha;exact⟨_,rfl,ri _⟩|1,ha=>simp at ha;subst ha;exact⟨_,rfl,ri _⟩|j+2,ha=>simp at ha),fun h=>(by cases h),fun h=>(by cases h)⟩
      ·cases hg
   ·exfalso
    replace h:Nb s l x0 x1 id=some r:=h
    unfold Nb at h
    split at h
    ·injection h with h;subst h;cases hw
    ·split at h
     ·injection h with h;subst h;cases hw
     ·split at h
      ·injection h with h;subst h;cases hw
      ·cases h
   ·left
    unfold IB at hid
    repeat' (split at hid)
    all_goals first|(rename_i e;subst e;exact Nat.zero_lt_one)|exact absurd rfl hid
   ·match t with
    |0=>exact .eP _ _ hTW
    |1=>exact .eP _ _ hA1
    |2=>exact rp _ _ n1 rfl
    |3=>exact rp _ _ n2 rfl
    |4=>exact .eP _ _ .cC
    |5=>exact rp _ _ n3 rfl
    |6=>exact rp _ _ n4 rfl
    |7=>exact ri _
    |8=>exact cL.undef
    |9=>exact .eP _ _ hA1
    |10=>exact .fn _ _ _ (fun _=>.pointer (some ⟨w.heap.size+1+1+1,0,none⟩)) (by kernel_rfl) rfl (fun j hj=>by match j,hj with|0,_=>rfl|j+1,hj=>simp at hj) (fun j a ha=>by match j,ha with|0,ha=>simp at ha;subst ha;exact rp _ _ n5 rfl|j+1,ha=>simp at ha)
    |11=>exact .agg _ _ (fun j=>if j=0 then .int .i64 (x0:Int)else .int .i64 (x1:Int)) rfl (fun a ha=>by simp at ha;rcases ha with rfl|rfl<;>rfl) (fun j hj=>by match j,hj with|0,_=>rfl|1,_=>rfl|j+2,hj=>simp at hj;omega) (fun j a ha=>by match j,ha with|0,ha=>simp at ha;subst ha;exact ri _|1,ha=>simp at ha;subst ha;exact ri _|j+2,ha=>simp at ha)
    |12=>exact ri _
    |13=>exact cL.undef
    |14=>exact cL.undef
    |15=>exact cL.undef
    |16=>exact cL.undef
    |17=>exact cL.undef
    |18=>exact cL.undef
    |19=>exact cL.undef
    |20=>exact cL.undef
    |21=>exact cL.undef
    |22=>exact cL.undef
    |23=>exact cL.undef
    |24=>exact cL.undef
    |25=>exact cL.undef
    |26=>exact cL.undef
    |27=>exact cL.undef
    |28=>exact cL.undef
    |29=>exact cL.undef
    |30=>exact cL.undef
    |31=>exact cL.undef
    |32=>exact cL.undef
    |33=>exact cL.undef
    |34=>exact cL.undef
    |35=>exact cL.undef
    |36=>exact cL.undef
    |37=>exact cL.undef
    |38=>exact cL.undef
    |39=>exact cL.undef
    |40=>exact cL.undef
    |41=>exact cL.undef
    |t+42=>exact cL.undef
  have hV:wpOps (Call Tryz.prog) true ?vl (fun e _=>e 5=.ptr ⟨3,0⟩ 0 0/\e 6=.ptr ⟨4,0⟩ 0 0/\e 8=.int .i64 (ib s (aL l x0).aT x2 (aL l x1).aT)) (N7 s l x0 x1 x2) ⟨Nb s l x0 x1,1⟩:= ?hv
  gi_wp2
  refine AI mixed (rrE (nt:=42) (site0:=205005000)) (JX (by kernel_rfl)) (lD (fun _ _ _ _ h=>gx mixed h) kW (fun _ _ h=>h) _ _ _ hV) dK ?_
  rintro e1 σ1 ⟨tm,df⟩ w3 D1 ι1 ⟨h5,h6,h8⟩ T1 tg DX
  case hv=>
   refine EB ?_
   have e0:=fC Dk
   have e1:=fC JB
   (repeat(first|((repeat(revert hN;revert N;apply Pn.out));refine wk (tw @e0 (tw @e1 (tw @N7.eq_1 (tw @Nb.eq_1 (tw @aa.eq_1 @ab.eq_1))))) ?_;(repeat(refine Pn.mk ?_;intro N hN)))|((try apply Or.inl);refine⟨_,aj.x (S6) (sd (tw @e0 (tw @e1 (tw @N7.eq_1 (tw @Nb.eq_1 (tw @aa.eq_1 @ab.eq_1)))))),?_⟩;refine hN _ _ ?_;clear hN N)))
   exact⟨sd @N7.eq_1,sd @N7.eq_1,sd @N7.eq_1⟩
  ·have B7:Below W.heap.size W w3:=T1.below
   have sk:∀id B,IB w.heap.size Bx id=some B->ι1 id=some B:=T1.names
   have p5:tm.getD 5 undef=.pointer (some ⟨w.heap.size+1+1,0,none⟩):=by
    have g:=tg.env 5
    rw[h5]at g
    obtain⟨B,e,hB,_⟩:=iL g
    have h:=sk ⟨3,0⟩ ⟨w.heap.size+1+1,1,1,none⟩ rfl
    rw[h]at hB;injection hB with hB;subst hB
    simpa using e
   have p6:tm.getD 6 undef=.pointer (some ⟨Bx,0,none⟩):=by
    have g:=tg.env 6
    rw[h6]at g
    obtain⟨B,e,hB,_⟩:=iL g
    have h:=sk ⟨4,0⟩ ⟨Bx,2,2,none⟩ rfl
    rw[h]at hB;injection hB with hB;subst hB
    simpa using e
   have p8:tm.getD 8 undef=.int .i64 (ib s (aL l x0).aT x2 (aL l x1).aT):=by
    have g:=tg.env 8
    rw[h8]at g
    exact du g
   have fw:=tg.size
   obtain⟨tl⟩:=tm
   obtain⟨f,Pc,hf⟩:∃f:Nat->Value,tl=[f 0,f 1,f 2,f 3,f 4,f 5,f 6,f 7,f 8,f 9,f 10,f 11,f 12,f 13,f 14,f 15,f 16,f 17,f 18,f 19,f 20,f 21,f 22,f 23,f 24,f 25,f 26,f 27,f 28,f 29,f 30,f 31,f 32,f 33,f 34,f 35,f 36,f 37,f 38,f 39,f 40,f 41]/\∀i,f i=(⟨tl⟩:Array Value).getD i undef:=by
    refine⟨fun i=>(⟨tl⟩:Array Value).getD i undef,?_,fun _=>rfl⟩
    have h:=JO tl undef
    rw[show tl.length=42 from fw]at h
    exact h
   rw[<-hf]at p5 p6 p8
   have UO:df=[]:=DX
   subst UO
   clear hf tg dK hV
   subst Pc
   rw[p5,p6,p8]
   have NB:=hv.kept (grown_of B7) (by simp)
   have FM:=fV.kept (grown_of B7) (by rcases fV.2 with⟨e,_⟩|⟨_,_,_,e,_⟩<;>rw[e]<;>simp[Value.ownBlock])
   have hc3:=NB.cell
   have hn3:w.heap.size<=w3.heap.size:=Nat.le_trans hB.size B7.size
   have eX0:w3.cell? ⟨Bx,0,none⟩=some (.int .i64 (x0:Int)):=(B7.cell (p:=⟨Bx,0,none⟩) (Array.getElem?_eq_some_iff.1 bX).1).trans cX0
   have eX1:w3.cell? ⟨Bx,1,none⟩=some (.int .i64 (x1:Int)):=(B7.cell (p:=⟨Bx,1,none⟩) (Array.getElem?_eq_some_iff.1 bX).1).trans cX1
   have mD:(ot s l pre).length<=2097152:=by
    have h1:=Iv s l pre
    have h2:=CH l l.length
    omega
   have hKF:KeepsFrom (w.heap.size+4) W w3:=⟨B7.size,fun k o _ hk _=>(B7.block k (Array.getElem?_eq_some_iff.1 hk).1).trans hk⟩
   have hKT:iz w.heap.size W w3:=iz.of B7
   have TZ:w3.heap[w.heap.size+1]? = _:=(B7.block _ bA1.lt).trans bA1
   have T5:=(B7.block _ (Array.getElem?_eq_some_iff.1 bT1).1).trans bT1
   by_cases kF:0<ib s (aL l x0).aT x2 (aL l x1).aT
   ·have xW:ot s l (pre++[⟨(x0,x1,x2),Dk,JB,ze⟩])=ot s l pre++[⟨x0,x1,ib s (aL l x0).aT x2 (aL l x1).aT⟩]:=by
     rw[yO];simp only[zT,if_pos kF]
    gi_wp2_with (gi_at_builtin;refine wpListIn_append_own _ rfl _ _ 179 rfl w.heap.size 254 i0 (.agg #[.int .i64 0,.int .i64 0,.int .i64 0]) 3 24 (by kernel_rfl) hi H5 Bo lH rfl (by decide) _ _ _ rfl (FM.alloc _) ⟨w3.heap.size,0,none⟩ 1 1 [.int .i64 (x0:Int),.int .i64 (x1:Int),.int .i64 (ib s (aL l x0).aT x2 (aL l x1).aT)] rfl rfl (wE _ _ _ _ _) (by simp[Value.oneCell']) (by unfold maxLen;omega) (by omega) (by simp;omega) ?_;intro v' w4 Nv FI _;obtain⟨g',cap',rfl⟩:=ownsRow_succ Nv;obtain⟨uA,Jw,Ea,wY,GJ⟩:=NB.appended (by decide) FM hn3 (by omega) Nv FI;have LW:=iz.app NB FM FI GJ;have qD:=uA.cell;have hf1:=uA.frozen)
    exact⟨hKF.trans (wY.from _),hKT.trans LW,⟨⟨_,Jw,by rw[xW,Iu,List.length_append];exact Ea,by rw[xW];simp⟩,(LW.2.1 _ _ _ _ TZ (by decide) (by decide)).trans TZ,(LW.2.1 _ _ _ _ T5 (by decide) (by decide)).trans T5⟩,hB.trans ((B7.mono hB.size).trans GJ)⟩
   ·have xW:ot s l (pre++[⟨(x0,x1,x2),Dk,JB,ze⟩])=ot s l pre:=by
     rw[yO];simp only[zT,if_neg kF,List.append_nil]
    gi_wp2
    exact⟨hKF,hKT,⟨⟨v,NB,by rw[xW];exact FM,by rw[xW];exact hnil⟩,TZ,T5⟩,hB.trans (B7.mono hB.size)⟩
 case done=>
  rintro D ys W hD FQ ⟨⟨⟨v,hv,fV,hnil⟩,_⟩,hB⟩ hK
  have hc:=hv.cell
  have K6:ot s l ys=cP s l:=by rw[IA,<-FQ];rfl
  rw[K6]at fV hnil
  gi_wp2
  refine⟨by simp,.inl ⟨_,_,rfl,run_takeDeferred hK,?_⟩⟩
  exact⟨_,results_tmp rfl _ _ _,v,rfl,ownsRow_putObj fV _ hK rfl,hnil,hB.trans (belowK_b (w:=w) (Nat.le_refl _) W D _ _ (by omega) hK rfl rfl)⟩
 case stop=>
  rintro D c pre W _ _ h _
  exact h.elim
end Go.Proofs.YtgoljkjaameagaaGreat.V

namespace Go.Proofs.YtgoljkjaameagaaGreat.V
open Go.RowKit Go.Shelf
theorem Fq:∀{bs:List PB} {i j:Nat} {b:PB},bs[i]? =some b->j<3->(Ls bs)[i*3+j]? =([.int .i64 b.a,.int .i64 b.b,.int .i64 b.s]:List Value)[j]?
 |c::bs,0,j,b,h,hj=>by
  simp at h;subst h
  simp only[Ls,List.flatMap_cons,Nat.zero_mul,Nat.zero_add]
  rw[List.getElem?_append_left (by simpa using hj)]
 |c::bs,i+1,j,b,h,hj=>by
  simp only[List.getElem?_cons_succ]at h
  have:=Fq (bs:=bs) (i:=i) (j:=j) h hj
  simp only[Ls,List.flatMap_cons]at this ⊢
  rw[List.getElem?_append_right (by simp;omega),<-this]
  congr 1
  simp;omega
theorem sq {P:Program} {w:World} {D:Nat->Prop} {rows:List (List AV)} {v:Value} (h:jL P w D (.sl rows) v):∃A n c,v=.slice A n c:=by
 cases h with
 |Bp a c _=>exact⟨_,_,_,rfl⟩
 |sl=>exact⟨_,_,_,rfl⟩
theorem rI {P:Program} {w:World} {D:Nat->Prop} {ι:Names} {rows:List (List AV)} {v:Value} (h:cL P w D ι (.sl rows) v):jL P w D (.sl rows) v:=by
 cases h with
 |eP _ _ h=>exact h
theorem MD {P:Program} {w:World} {D:Nat->Prop} {l:List ad} {v:Value} (h:jL P w D (.sl (l.map aa)) v):qn w v l:=by
 generalize hr:l.map aa=rows at h
 cases h with
 |Bp a c hc=>
  have:l=[]:=by simpa using hr
  subst this
  exact⟨a,c,rfl,⟨Nat.zero_le _,hc⟩,.inl rfl⟩
 |sl _ b o n c sz vs h1 h2 h3 h4 h5 h5' h6 h7=>
  have hn:n=l.length:=by rw[<-h1,<-hr];simp
  subst hn
  refine⟨some ⟨b,o,none⟩,c,rfl,⟨h2,h3⟩,?_⟩
  by_cases hl:l=[]
  ·exact .inl hl
  refine .inr ⟨b,o,rfl,fun i hi=>?_⟩
  have hg:rows[i]? =some (aa (aL l i)):=by rw[<-hr];exact fC hi
  have fw:sz=3:=by rw[<-h5 _ (List.mem_of_getElem? hg)];rfl
  subst fw
  have k:∀(j:Nat) (x:Int),(aa (aL l i))[j]? =some (.int .i64 x)->j<3->w.cell? ⟨b,o+(i*3+j),none⟩=some (.int .i64 x):=fun j x hj h3=>by
   have:=h7 i j _ _ hg hj
   rw[h6 i j hi h3,du (.eP (ι:=fun _=>none) _ _ this)]
  exact⟨k 0 _ rfl (by omega),k 1 _ rfl (by omega),k 2 _ rfl (by omega)⟩
theorem N6:Dn:=by
 intro s l hS hA n
 refine gS ?_
 intro hs D ι w vs S U A
 obtain⟨u0,Tu,r0⟩:=A.2 0 _ rfl
 obtain⟨u1,RS,r1⟩:=A.2 1 _ rfl
 have dY:∀b,D b->b<w.heap.size:=S.dead
 obtain⟨v0,f0,rfl,H5,_,Td,Vr⟩:=ja r0
 obtain⟨v1,f1,rfl,Bo,_,hf1,O4⟩:=ja r1
 have g0:=rI (Vr 0 _ rfl)
 have g1:=rI (Vr 1 _ rfl)
 have a0:=rI (O4 0 _ rfl)
 obtain⟨Ag,ng,cg,eg⟩:=sq g0
 obtain⟨At,nt,ct,et⟩:=sq g1
 have e0:v0= #[.slice Ag ng cg,.slice At nt ct]:=by
  obtain⟨vl⟩:=v0
  have q0:=Td 0 (by simp[ab])
  have q1:=Td 1 (by simp[ab])
  rw[eg]at q0;rw[et]at q1
  match vl,H5 with
  |[a,b],_=>simp at q0 q1;rw[q0,q1]
 have e1:v1= #[f1 0]:=by
  obtain⟨vl⟩:=v1
  have q0:=hf1 0 (by simp)
  match vl,Bo with
  |[a],_=>simp at q0;rw[q0]
 subst e0 e1
 have evs:vs= #[.agg #[.slice Ag ng cg,.slice At nt ct],.agg #[f1 0]]:=by
  obtain⟨vl⟩:=vs
  have hz:=A.1
  match vl,hz with
  |[a,b],_=>simp at Tu RS;rw[Tu,RS]
 subst evs
 have up:∀{a v},jL Tryz.prog w D a v->jL Tryz.prog w (fun b=>b<w.heap.size) a v:=fun h=>h.frame (fun _ _=>rfl) dY
 have hT:jL Tryz.prog w (fun b=>b<w.heap.size) (.agg (ab s)) (.agg #[.slice Ag ng cg,.slice At nt ct]):=
  .agg _ _ f0 H5 (fun a ha=>by simp[ab]at ha;rcases ha with rfl|rfl<;>rfl) Td (fun j a ha=>by
   match j,ha with
   |0,ha=>simp[ab]at ha;subst ha;exact up g0
   |1,ha=>simp[ab]at ha;subst ha;exact up g1
   |j+2,ha=>simp[ab]at ha)
 refine(callsIn_wide.1 (Iz s l hS.form hA w Ag At ng cg nt ct (f1 0) hT (MD a0))).mono ?_
 rintro e W' ⟨v,rfl,⟨hl,hown⟩,hnil,hB⟩
 have S':gD Tryz.prog hs D ι (fun _=>none) W':=S.stay (fun b hb=>hB.block b hb) hB.size (fun _ h=>h) (fun b hb=>Nat.lt_of_lt_of_le (dY b hb) hB.size) (fun _ h=>.inl h) (fun _ _ h=>h)
 have T:Step hs D ι w D ι W':=Step.stay S (fun b hb=>hB.block b hb) hB.size hB.os hB.tape hB.output (fun _ h=>h) (fun _ h=>.inl h) (fun _ _ h=>h)
 rcases hown with⟨rfl,h0⟩|⟨gb,cap,cur,rfl,Ru,hblk,hle,I6,dx,oF⟩
 ·have Rc:cP s l=[]:=hnil.1 rfl
  exact⟨.cC,_,n,D,ι,_,rfl,⟨.cC,k6 _ _,by rw[Rc];rfl⟩,T,S',U,Nat.le_refl _,.eP _ _ .cC⟩
 ·have Rc:cP s l≠[]:=fun h=>by have:=hnil.2 h;cases this
  have jV:ι ⟨0,n⟩=none:=fresh U (fun h=>h)
  have gQ:∀{a v},cL Tryz.prog W' D ι a v->cL Tryz.prog W' D (kT ι ⟨0,n⟩ ⟨gb,3,cap*3,none⟩) a v:=fun h=>h.frame (fun _ _=>rfl) (fun _ h=>h) (fe jV)
  have hR:gR Tryz.prog W' D (kT ι ⟨0,n⟩ ⟨gb,3,cap*3,none⟩) ⟨gb,3,cap*3,none⟩ ⟨true,3,(cP s l).map az⟩:=by
   refine lR.obj ⟨rfl,⟨cur,_,hblk,dx⟩,?_,fun cs hc=>?_,fun cs hc a ha=>?_,fun i j cs a hi hj=>?_⟩ rfl
   ·simp only[List.length_map];exact Nat.mul_le_mul_right 3 hle
   ·obtain⟨b,_,rfl⟩:=List.mem_map.1 hc;rfl
   ·obtain⟨b,_,rfl⟩:=List.mem_map.1 hc
    simp[az]at ha
    rcases ha with rfl|rfl|rfl<;>rfl
   ·rw[List.getElem?_map]at hi
    simp only[Option.map_eq_some_iff]at hi
    obtain⟨b,hb,rfl⟩:=hi
    have hj3:j<3:=by have:=(List.getElem?_eq_some_iff.1 hj).1;simpa[az]using this
    have lV:=(List.getElem?_eq_some_iff.1 hb).1
    have hg:=Fq hb hj3
    rw[<-oF,List.getElem?_take,if_pos (by omega)]at hg
    have key:∀x:Value,([.int .i64 b.a,.int .i64 b.b,.int .i64 b.s]:List Value)[j]? =some x->W'.cell? ⟨gb,i*3+j,none⟩=some x:=fun x hx=>by
     rw[hx]at hg
     have e:W'.cell? ⟨gb,i*3+j,none⟩=cur[i*3+j]? :=by
      unfold World.cell?
      rw[show W'.heap[(⟨gb,i*3+j,none⟩:Addr).block]? = _ from hblk]
      rfl
     rw[e,<-Array.getElem?_toList];exact hg
    match j,hj with
    |0,hj=>simp[az]at hj;subst hj;exact⟨_,key _ rfl,.eP _ _ (.int _ _)⟩
    |1,hj=>simp[az]at hj;subst hj;exact⟨_,key _ rfl,.eP _ _ (.int _ _)⟩
    |2,hj=>simp[az]at hj;subst hj;exact⟨_,key _ rfl,.eP _ _ (.int _ _)⟩
    |j+3,hj=>simp[az]at hj
  have S2:=gD.add (r:=⟨true,3,(cP s l).map az⟩) S S' jV Ru hR
  refine⟨.own ⟨0,n⟩ 0 (cP s l).length,bt (fun _=>none) ⟨0,n⟩ ⟨true,3,(cP s l).map az⟩,n+1,D,kT ι ⟨0,n⟩ ⟨gb,3,cap*3,none⟩,_,rfl,⟨AQ (cP s l),?_,rfl⟩,T.trans (Step.stay S' (fun _ _=>rfl) (Nat.le_refl _) rfl rfl rfl (fun _ h=>h) (fun _ h=>.inl h) (fe jV)),S2,U.upd.next,Nat.le_succ _,.own _ _ _ _ _ _ (eb _ _ _) rfl hle (.inr (by simp)) (by simp) I6⟩
  unfold AQ
  rw[if_neg Rc]
  have hg:(bt (fun _=>none) (⟨0,n⟩:Id) ⟨true,3,(cP s l).map az⟩:Rows) ⟨0,n⟩=some ⟨true,3,(cP s l).map az⟩:=by simp[bt]
  have:=fJ (n:=5) hg rfl fun b=>vH _ 4 b
  simpa using this
end Go.Proofs.YtgoljkjaameagaaGreat.V

namespace Go.Proofs.YtgoljkjaameagaaGreat.V
open Go.RowKit
attribute [local irreducible] dL wpOps gC Call
attribute [local go_sem] aO fM eS ga fZ cU upd cD K.av cR AV.cells AV.cell rowOf rowsOf part ld rowAt bt cw dG ei iu bK dm eB fY e6 dt ep di dh dV dW bU bd cZ bQ db da ek er eo cY ck dj ej bP aQ dd cJ iq br cN bV aZ dr bc dH AV.undef bF bJ dX eh dR dO cK eA eC cI ev eu dc de List.getD_cons_zero List.getD_cons_succ List.getD_nil List.all_cons List.all_nil Bool.and_true Bool.true_and Bool.and_self Bool.not_true Bool.not_false Option.map_some Option.map_none Option.bind_some Option.bind_none List.length_cons List.length_nil List.take_succ_cons List.take_zero List.take_nil List.drop_succ_cons List.drop_zero List.drop_nil List.head?_cons List.map_cons List.map_nil List.getElem?_cons_zero List.getElem?_cons_succ List.cons_append List.nil_append List.append_nil List.length_map List.set_cons_zero List.set_cons_succ Nat.reduceMul eq_self Int.toNat_natCast Int.natCast_nonneg and_self true_and and_true decide_true decide_false Bool.false_eq_true Nat.zero_add Nat.add_zero List.contains_cons List.contains_nil Bool.or_false Bool.false_or beq_self_eq_true Nat.reduceBEq ne_eq not_true_eq_false not_false_eq_true Id.mk.injEq false_and and_false Nat.reduceLT Int.reduceLE Int.reduceLT Int.reduceToNat Int.reduceNeg Int.reduceAdd Nat.le_refl List.length_append beq_true beq_false Bool.not_eq_eq_eq_not or_false false_or dP ai aq aI bh bE cz aY bl aV bf cW bH
theorem Mv (lb:List ad) (hb:jK lb) (t:ad):aj Tryz.prog 243 [.agg (aa t),.dn [.sl (lb.map aa)]] (.bool (!decide (gw lb t.aP=t.aT))):=by
 refine aj.body eI rfl fun hl n0=>?_
 clear hl
 have h:=TY lb t.aP hb.Dm (by have:=hb.oJ;omega)
 (repeat(first|((repeat(revert hN;revert N;apply Pn.out));refine wk (tw @aa.eq_1 @ah.eq_1) ?_;(repeat(refine Pn.mk ?_;intro N hN)))|((try apply Or.inl);refine⟨_,aj.x (h) (sd (tw @aa.eq_1 @ah.eq_1)),?_⟩;refine hN _ _ ?_;clear hN N)))
 exact aU (b:= !decide (gw lb t.aP=t.aT)) (.inl rfl) (sd @Nat.zero_add) (by simp)
theorem qI (la lb:List ad) (ha:jK la) (hb:jK lb):aj Tryz.prog 172 [.agg [.sl (la.map aa)],.agg [.sl (lb.map aa)]] (.bool (fa la lb)):=by
 refine aj.body eI rfl fun hl n0=>?_
 clear hl
 have h1:=tz la
 have h2:=tz lb
 rw[tu.2 ha]at h1
 rw[tu.2 hb]at h2
 have h3:aj Tryz.prog 201 [.sl (la.map aa),.fn 243 [.dn [.sl (lb.map aa)]]] (.bool (la.any fun t=> !decide (gw lb t.aP=t.aT))):=
  kZ wI (show mz Tryz.prog 201=some (Af 201 247) by kernel_rfl)
   (show mz Tryz.prog 247=some (tH 247 3 true) by kernel_rfl) la (by have:=ha.oJ;omega) _ _ _ rfl (fun g=>by rw[ai,aV,aq];rfl) (fun x _=>Mv lb hb x) fun g=>by rw[ai,aV,aq];rfl
 (repeat(first|((repeat(revert hN;revert N;apply Pn.out));refine wk @Nat.zero_add ?_;(repeat(refine Pn.mk ?_;intro N hN)))|((try apply Or.inl);refine⟨_,aj.x (h1) (sd @Nat.zero_add),?_⟩;refine hN _ _ ?_;clear hN N)|((try apply Or.inl);refine⟨_,aj.x (h2) (sd @Nat.zero_add),?_⟩;refine hN _ _ ?_;clear hN N)|((try apply Or.inl);refine⟨_,aj.x (h3) (sd @Nat.zero_add),?_⟩;refine hN _ _ ?_;clear hN N)))
 exact aU (b:= !(la.any fun t=> !decide (gw lb t.aP=t.aT))) (.inl rfl) (sd @Nat.zero_add) (by rw[Fm];rfl)
theorem sf (s:ax) (l:List ad) (hn:gF s.aD) (hm:ui s) (hl:l.length<=1048576):aj Tryz.prog 82 [.agg (au s),.agg [.sl (l.map aa)]] (.int .i64 (if yd s l then 0 else 1)):=by
 refine aj.body eI rfl fun nB n0=>?_
 clear nB
 have h1:=yc N6 s hn hm.s.g hm.s.t hm.s.s hm.a
 have h2:=nU s.aD l hn hm.s.g hm.s.t hm.s.s hl
 cases b1:lv s
 ·rw[b1]at h1
  rw[au]at h1 ⊢
  (repeat(first|((repeat(revert hN;revert N;apply Pn.out));refine wk @Nat.zero_add ?_;(repeat(refine Pn.mk ?_;intro N hN)))|((try apply Or.inl);refine⟨_,aj.x (h1) (sd @Nat.zero_add),?_⟩;refine hN _ _ ?_;clear hN N)))
  exact cr (b:=1) (.inl rfl) (sd @Nat.zero_add) (by simp[yd,b1])
 have eF:rK s.aD=true:=mW.2 (ko.1 b1).set
 rw[b1]at h1
 rw[eF,Bool.true_and]at h2
 rw[au]at h1 ⊢
 rw[ab]at h2
 cases b2:kM s.aD l
 ·rw[b2]at h2
  (repeat(first|((repeat(revert hN;revert N;apply Pn.out));refine wk @Nat.zero_add ?_;(repeat(refine Pn.mk ?_;intro N hN)))|((try apply Or.inl);refine⟨_,aj.x (h1) (sd @Nat.zero_add),?_⟩;refine hN _ _ ?_;clear hN N)|((try apply Or.inl);refine⟨_,aj.x (h2) (sd @Nat.zero_add),?_⟩;refine hN _ _ ?_;clear hN N)))
  exact cr (b:=1) (.inl rfl) (sd @Nat.zero_add) (by simp[yd,b1,b2])
 ·rw[b2]at h2
  (repeat(first|((repeat(revert hN;revert N;apply Pn.out));refine wk @Nat.zero_add ?_;(repeat(refine Pn.mk ?_;intro N hN)))|((try apply Or.inl);refine⟨_,aj.x (h1) (sd @Nat.zero_add),?_⟩;refine hN _ _ ?_;clear hN N)|((try apply Or.inl);refine⟨_,aj.x (h2) (sd @Nat.zero_add),?_⟩;refine hN _ _ ?_;clear hN N)))
  exact cr (b:=0) (.inl rfl) (sd @Nat.zero_add) (by simp[yd,b1,b2])
theorem Co {s:ax} {l:List ad} (hA:jc s.aD l):∀(n:Nat) (st:iO),oO s l st->oO s l (w8 s l n st)
 |0,st,h=>h
 |n+1,st,h=>by
  have h1:=(xR h hA l.length (Nat.le_refl _)).1
  rw[p7]at h1
  rw[w8]
  split
  ·exact h1
  ·exact Co hA n _ h1
theorem Cn {s:ax} {l:List ad} (hP:Bw s) (hA:jc s.aD l) (hW:fa s.aX.ae l=true):oO s l (kP s l):=Co hA _ _ (tK hP hA hW)
end Go.Proofs.YtgoljkjaameagaaGreat.V

namespace Go.Proofs.YtgoljkjaameagaaGreat.V
open Go.RowKit
attribute [local irreducible] dL wpOps gC Call
attribute [local go_sem] aO fM eS ga fZ cU upd cD K.av cR AV.cells AV.cell rowOf rowsOf part ld rowAt bt cw dG ei iu bK dm eB fY e6 dt ep di dh dV dW bU bd cZ bQ db da ek er eo cY ck dj ej bP aQ dd cJ iq br cN bV aZ dr bc dH AV.undef bF bJ dX eh dR dO cK eA eC cI ev eu dc de List.getD_cons_zero List.getD_cons_succ List.getD_nil List.all_cons List.all_nil Bool.and_true Bool.true_and Bool.and_self Bool.not_true Bool.not_false Option.map_some Option.map_none Option.bind_some Option.bind_none List.length_cons List.length_nil List.take_succ_cons List.take_zero List.take_nil List.drop_succ_cons List.drop_zero List.drop_nil List.head?_cons List.map_cons List.map_nil List.getElem?_cons_zero List.getElem?_cons_succ List.cons_append List.nil_append List.append_nil List.length_map List.set_cons_zero List.set_cons_succ eq_self Int.toNat_natCast Int.natCast_nonneg and_self true_and and_true decide_true decide_false Bool.false_eq_true Nat.zero_add Nat.add_zero List.contains_cons List.contains_nil Bool.or_false Bool.false_or beq_self_eq_true ne_eq not_true_eq_false not_false_eq_true Id.mk.injEq false_and and_false Nat.le_refl List.length_append beq_true beq_false Bool.not_eq_eq_eq_not or_false false_or dP ai aq aI bh bE cz aY bl aV bf cW bH
theorem jN.cell {α:Type} {e:α->List AV} {L:List α} {w:AV} (h:jN e L w):w.cells=[w]/\w.cell=true:=by
 rcases h with⟨rfl,rfl⟩|rfl<;>exact⟨rfl,rfl⟩
theorem tf.cell {α:Type} {e:α->List AV} {z:Nat} {g:Rows} {v:AV} {L:List α} {ids:List Id} (h:tf e z g v L ids):v.cells=[v]/\v.cell=true:=by
 rcases h with⟨_,rfl,_⟩|⟨o,rfl,_⟩<;>exact⟨rfl,rfl⟩
theorem jN.fz5 {α:Type} {e:α->List AV} {L:List α} {w:AV} (h:jN e L w) (g:Rows):V.fz g 5 w=some w:=by
 rcases h with⟨rfl,rfl⟩|rfl
 ·exact aY _ _
 ·exact cz _ _ _
theorem tf.fz5 {α:Type} {e:α->List AV} {z:Nat} {g:Rows} {v:AV} {L:List α} {ids:List Id} (h:tf e z g v L ids) (he:∀x g,cV g 4 (e x)=some (e x)):∃w,V.fz (dP g) 5 v=some w/\jN e L w:=by
 rcases h with⟨rfl,rfl,_⟩|⟨o,rfl,h2,_⟩
 ·exact⟨.cC,aY _ _,.inl ⟨rfl,rfl⟩⟩
 ·exact⟨_,gy (e:=e) (sz:=z) (by simp[dP,h2]) rfl fun x=>he x _,.inr rfl⟩
end Go.Proofs.YtgoljkjaameagaaGreat.V

namespace Go.Proofs.YtgoljkjaameagaaGreat.V
open Go.RowKit
attribute [local irreducible] dL wpOps gC Call
attribute [local go_sem] aO fM eS ga fZ cU upd cD K.av cR AV.cells AV.cell rowOf rowsOf part ld rowAt bt cw dG ei iu bK dm eB fY e6 dt ep di dh dV dW bU bd cZ bQ db da ek er eo cY ck dj ej bP aQ dd cJ iq br cN bV aZ dr bc dH AV.undef bF bJ dX eh dR dO cK eA eC cI ev eu dc de List.getD_cons_zero List.getD_cons_succ List.getD_nil List.all_cons List.all_nil Bool.and_true Bool.true_and Bool.and_self Bool.not_true Bool.not_false Option.map_some Option.map_none Option.bind_some Option.bind_none List.length_cons List.length_nil List.take_succ_cons List.take_zero List.take_nil List.drop_succ_cons List.drop_zero List.drop_nil List.head?_cons List.map_cons List.map_nil List.getElem?_cons_zero List.getElem?_cons_succ List.cons_append List.nil_append List.append_nil List.length_map List.set_cons_zero List.set_cons_succ Nat.reduceMul eq_self Int.toNat_natCast Int.natCast_nonneg and_self true_and and_true decide_true decide_false Bool.false_eq_true Nat.zero_add Nat.add_zero List.contains_cons List.contains_nil Bool.or_false Bool.false_or beq_self_eq_true Nat.reduceBEq ne_eq not_true_eq_false not_false_eq_true Id.mk.injEq false_and and_false Nat.reduceLT Int.reduceLE Int.reduceLT Int.reduceToNat Int.reduceNeg Int.reduceAdd Nat.le_refl List.length_append beq_true beq_false Bool.not_eq_eq_eq_not or_false false_or dP ai aq aI bh bE cz aY bl aV bf cW bH
def oI (s:ax) (a:List ad):ax:=⟨s.aD,⟨a⟩,s.aA⟩
noncomputable def j4 (s:ax) (r a:List ad):Int:=if lv s&&(kM s.aD r&&kM s.aD a)then(if fa s.aX.ae r&&fa s.aX.ae a then 0 else 2)else 1
structure Gi (s:ax) (r a:List ad):Prop where
 sys:Bv s
 right:jc s.aD r
 N3:jc s.aD a
 wr:fa s.aX.ae r=true
 wa:fa s.aX.ae a=true
theorem xu {s:ax} {r a:List ad}:j4 s r a=0↔Gi s r a:=by
 unfold j4
 constructor
 ·intro h
  split at h
  ·rename_i h1
   split at h
   ·rename_i h2
    simp only[Bool.and_eq_true]at h1 h2
    exact⟨ko.1 h1.1,gi.1 h1.2.1,gi.1 h1.2.2,h2.1,h2.2⟩
   ·cases h
  ·cases h
 ·intro h
  rw[if_pos (by rw[ko.2 h.sys,gi.2 h.right,gi.2 h.N3];rfl),if_pos (by rw[h.wr,h.wa];rfl)]
theorem Gi.some {s:ax} {r a:List ad} (h:Gi s r a):1<=a.length:=by
 have h1:=h.sys.some
 have h2:=h.wa
 rcases a with _|⟨x,a⟩
 ·rcases hs:s.aX.ae with _|⟨y,l⟩
  ·rw[hs]at h1;simp at h1
  ·unfold fa at h2
   rw[hs,List.all_cons,Bool.and_eq_true]at h2
   have h3:=of_decide_eq_true h2.1
   have h4:=(ez (h.sys.rJ.2 y (by rw[hs];simp))).1
   have h5:gw [] y.aP<0:=by
    rcases Int.lt_or_le (gw [] y.aP) 0 with h5|h5
    ·exact h5
    ·unfold gw at h5
     split at h5
     ·rename_i h6
      have:=(kO h6).1
      simp at this
     ·omega
   omega
 ·simp
theorem Gi.w {s:ax} {r a:List ad} (h:Gi s r a):Bw (oI s a):=⟨h.sys.set,h.N3,h.some,h.sys.HH⟩
noncomputable def tU (s:ax) (r a:List ad):List ad×Bool:=if fa a r=true then((kP (oI s a) r).1,decide (((kP (oI s a) r).2.length:Int)=(r.length:Int)))else([],false)
noncomputable def pJ (s:ax) (r a:List ad):List ad×Int:=if j4 s r a=0 then(if (tU s r a).2=true then((tU s r a).1,0)else([],3))else([],j4 s r a)
def Lm (X:Id) (st:iO) (e7:AV) (g:Rows) (n:Nat):Prop:=∃o u:Id,g X=some ⟨true,1,[[.own o 0 st.2.length]]⟩/\g o=some ⟨true,3,st.2.map aa⟩/\e7=.own u 0 st.1.length/\g u=some ⟨true,3,st.1.map aa⟩/\(o=u->False)/\(X=u->False)/\u.bW<n/\(X=o->False)/\o.bW<n/\X.bW<n
theorem Lm.frame {X:Id} {st:iO} {e7 Nc:AV} {g g':Rows} {n n':Nat} (h:Lm X st e7 g n) (he:Nc=e7) (hn:n<=n') (hf:∀x:Id,x.bW<n->g' x=g x):Lm X st Nc g' n':=by
 obtain⟨o,u,h1,h2,h3,h4,h5,h6,h7,h8,h9,DU⟩:=h
 exact⟨o,u,(hf X DU).trans h1,(hf o h9).trans h2,he.trans h3,(hf u h7).trans h4,h5,h6,by omega,h8,by omega,by omega⟩
theorem JL (s0:ax) (a:List ad) (Ux:Bw s0) (hP:Bw (oI s0 a)) (l:List ad) (hA:jc (oI s0 a).aD l) (hW:fa a l=true):aj Tryz.prog 103 [.dn (au s0),.dn [.sl (l.map aa)],.dn [.sl (a.map aa)]] (.gO [.sl ((kP (oI s0 a) l).1.map aa),.bool (decide (((kP (oI s0 a) l).2.length:Int)=(l.length:Int)))]):=by
 refine aj.body eI rfl fun nB n0=>?_
 clear nB
 have Jc:=hA.1.oJ
 have GI:=tK hP hA hW
 have JA:=l7 a l hA.1.Dm (by omega) (by have:=hP.rJ.1.oJ;(try dsimp only[oI]at this);omega)
 rw[hW]at JA
 have UR:∀q p t,jH (oI s0 a) q p t=jH s0 q p t:=fun _ _ _=>rfl
 have Vs:(oI s0 a).aD=s0.aD:=rfl
 have Ts:(oI s0 a).aX.ae=a:=rfl
 obtain⟨s,hs⟩:∃s,oI s0 a=s:=⟨_,rfl⟩
 rw[hs]at hP hA GI UR Vs Ts ⊢
 have Qy:=GI.oJ
 (try dsimp only at Qy)
 (repeat(first|((repeat(revert hN;revert N;apply Pn.out));refine wk @Nat.zero_add ?_;(repeat(refine Pn.mk ?_;intro N hN)))|((try apply Or.inl);refine⟨_,aj.x (JA) (sd @Nat.zero_add),?_⟩;refine hN _ _ ?_;clear hN N)))
 refine .inr (aJ _ _ _ _ _ (fun r σ1 hq=>?_) (NU.val (fun n=>JH a (by rw[Ts]at Qy;omega) n) (by simp only[ai,aq,aV,Option.map_some])))
 obtain⟨⟨o,rfl,q1,q2,q3⟩,hK⟩:=hq
 obtain⟨g1,x1⟩:=σ1
 (try dsimp only at q1 q2 q3 hK)
 have yn:=hK.1
 have TB:=hK.2 ⟨103001000,n0+1⟩ (by(try dsimp only);omega)
 simp only[go_sem, ↓reduceIte,Nat.reduceEqDiff,Nat.reduceAdd,Nat.reduceSub,Nat.reduceLeDiff,reduceCtorEq]at TB
 (try dsimp only at yn)
 refine hN _ _ ?_
 clear hN N
 (try((repeat(revert hN;revert N;apply Pn.out));refine wk @TB ?_;(repeat(refine Pn.mk ?_;intro N hN))))
 refine aW (fun n env st=>∃(S:iO) (m:Nat) (go:Bool),n=(if go then m else 0)/\env 10=.bool go/\(go=true->w8 s l m S=kP s l/\ph l S.2<m)/\(go=false->S=kP s l)/\oO s l S/\Lm ⟨103004002,x1⟩ S (env 8) st.get st.next) (l.length+1) ⟨([],s.aX.ae),l.length+1,true,rfl,sd @Nat.zero_add,fun _=>⟨rfl,by have:=FD l s.aX.ae;(try dsimp only);omega⟩,fun h=>(by cases h),GI,?_⟩ ?_
 ·have vo:=dv (i:=o) (n:=x1) (by omega)
  exact⟨o,⟨103001000,n0+1⟩,by rw[Ts];simp only[go_sem, ↓reduceIte,Nat.reduceEqDiff,Nat.reduceAdd,Nat.reduceSub,Nat.reduceLeDiff,reduceCtorEq],by rw[Ts];simp only[go_sem, ↓reduceIte,Nat.reduceEqDiff,Nat.reduceAdd,Nat.reduceSub,Nat.reduceLeDiff,reduceCtorEq,vo,q1],sl @Nat.zero_add,sl @TB,fun e=>by rw[e]at q2;(try dsimp only at q2);omega,fun e=>by injection e with e1 e2;revert e1;decide,by(try dsimp only);omega,fun e=>by rw[<-e]at q3;(try dsimp only at q3);omega,by(try dsimp only);omega,by(try dsimp only);omega⟩
 rintro n1 e1 st1 ⟨S,m,go,rfl,e10,si,hend,hI,hL⟩ hk
 have c0:=hk 0 (by kernel_rfl)
 have c1:=hk 1 (by kernel_rfl)
 have c9:=hk 9 (by kernel_rfl)
 simp only[go_sem, ↓reduceIte,Nat.reduceEqDiff,Nat.reduceAdd,Nat.reduceSub,Nat.reduceLeDiff,reduceCtorEq]at c0 c1 c9
 clear hk q1 q2 q3 hK TB
 cases go
 ·have hS:=hend rfl
  subst hS
  clear hend si
  obtain⟨o,u,h1,h2,h3,h4,h5,h6,h7,h8,h9,DU⟩:=hL
  have lF:(l.map aa).length=l.length:=by simp
  (try((repeat(revert hN;revert N;apply Pn.out));refine wk (tw @e10 (tw @c1 (tw @c9 (tw @h1 (tw @h3 @lF))))) ?_;(repeat(refine Pn.mk ?_;intro N hN))))
  exact pK (.inl rfl) (vs:=[.own u 0 (kP s l).1.length,.bool (decide (((kP s l).2.length:Int)=(l.length:Int)))]) (sd @h3) (by
   simp only[fj,eY,bD,cF,fo]
   rw[fJ (e:=aa) (l:=(kP s l).1) (sz:=3) h4 rfl (fun x=>Ng _ 3 x)];rfl)
 ·obtain⟨hF,hm⟩:=si rfl
  clear hend si
  have Ec:fQ s l S 0=S:=by simp[fQ]
  (try((repeat(revert hN;revert N;apply Pn.out));refine wk (tw @e10 (tw @c0 @c1)) ?_;(repeat(refine Pn.mk ?_;intro N hN))))
  refine aW (fun n env st=>∃i:Nat,n=(l.length)-i/\i<=(l.length)/\env 11=.int .i64 (i:Int)/\(env 10=.bool (decide ((fQ s l S i).1.length≠S.1.length))/\Lm ⟨103004002,x1⟩ (fQ s l S i) (env 8) st.get st.next)) (l.length) ⟨0,by omega,by omega,sl (tw @c0 (tw @c1 @c9)),by(try dsimp only);exact⟨by rw[Ec];simp only[go_sem, ↓reduceIte,Nat.reduceEqDiff,Nat.reduceAdd,Nat.reduceSub,Nat.reduceLeDiff,reduceCtorEq]<;>simp,by rw[Ec];exact hL.frame (sd @Nat.zero_add) (by(try dsimp only);omega) fun x _=>rfl⟩⟩ ?_
  rintro n_b env_b st_b ⟨i,rfl,ble,b11,bI0⟩ gu
  have b0:=gu 0 (by kernel_rfl);have b1:=gu 1 (by kernel_rfl);have b9:=gu 9 (by kernel_rfl)
  simp only[go_sem, ↓reduceIte,Nat.reduceEqDiff,Nat.reduceAdd,Nat.reduceSub,Nat.reduceLeDiff,reduceCtorEq,c0,c1,c9]at b0 b1 b9
  clear gu
  obtain⟨K0,bL⟩:=bI0
  obtain⟨Bl,Jf,Dg⟩:=xR hI hA i (by omega)
  by_cases hi:(i:Int)<(l.length:Int)
  ·have gp:∀{e:Env} {gg:Rows} {nx:Nat},(e 11=.int .i64 (IntKind.i64.wrap ((i:Int)+1)))->(e 10=.bool (decide ((fQ s l S (i+1)).1.length≠S.1.length))/\Lm ⟨103004002,x1⟩ (fQ s l S (i+1)) (e 8) gg nx)->∃m0,m0<(l.length)-i/\∃i:Nat,m0=(l.length)-i/\i<=(l.length)/\e 11=.int .i64 (i:Int)/\(e 10=.bool (decide ((fQ s l S i).1.length≠S.1.length))/\Lm ⟨103004002,x1⟩ (fQ s l S i) (e 8) gg nx):=fun x1 x2=>⟨_,by omega,i+1,rfl,by omega,(by rw[x1,aB (by omega)]),x2⟩
   have fB:i<l.length:=by omega
   have zd:=rn s l S fB
   have hx:=gM fB
   have ht:=hA.2 _ hx
   have kh:=fC fB
   have Q9:=Bl.N3 hA
   have OK:=JK s0 Ux _ (by rw[<-Vs];exact Q9) (aL l i).aP (aL l i).aT (by rw[<-Vs];exact ht)
   rw[<-UR]at OK
   have lF:(l.map aa).length=l.length:=by simp
   have UB:=Bl.oJ
   have UC:=Bl.len
   generalize fQ s l S i=T at Bl Q9 OK zd UB UC Dg K0 bL
   obtain⟨o,u,h1,h2,h3,h4,h5,h6,h7,h8,h9,DU⟩:=bL
   have vo:=dv (i:=o) (n:=st_b.next) (by omega)
   have vu:=dv (i:=u) (n:=st_b.next) (by omega)
   have vX:=dv (i:=⟨103004002,x1⟩) (n:=st_b.next) (by(try dsimp only at DU);(try dsimp only);omega)
   (try((repeat(revert hN;revert N;apply Pn.out));refine wk (tw @b11 (tw @b0 (tw @b1 (tw @b9 (tw @hi (tw @kh (tw @lF @aa.eq_1))))))) ?_;(repeat(refine Pn.mk ?_;intro N hN))))
   refine .inl ⟨_,aj.x OK (by
    have hp:=F2 (g:=bt (bt st_b.get ⟨103011017,st_b.next+1⟩ ⟨true,3,[[.int .i64 0,.int .i64 0,.int .i64 0]]⟩) ⟨103011017,st_b.next+1⟩ ⟨true,3,[[.int .i64 (aL l i).aP.fb,.int .i64 (aL l i).aP.eV,.int .i64 (aL l i).aT]]⟩) (X:=⟨103004002,x1⟩) (o:=o) (L:=T.2) (sd (tw @vX @h1)) (sd (tw @vo @h2))
    simp only[ai,aq,aV,hp,bl,aI,Option.map_some]),?_⟩
   refine hN _ _ ?_
   clear hN N
   cases hf:jH s T.2 (aL l i).aP (aL l i).aT
   ·rw[w9 hf]at zd
    (try((repeat(revert hN;revert N;apply Pn.out));refine wk (tw @b11 (tw @b0 (tw @b1 (tw @b9 (tw @hf @kh))))) ?_;(repeat(refine Pn.mk ?_;intro N hN))))
    exact gp (sd (tw @b11 (tw @b0 (tw @b1 @b9)))) (by(try dsimp only);exact⟨by rw[zd];simp only[go_sem, ↓reduceIte,Nat.reduceEqDiff,Nat.reduceAdd,Nat.reduceSub,Nat.reduceLeDiff,reduceCtorEq,K0],by rw[zd];exact(show Lm ⟨103004002,x1⟩ T (env_b 8) st_b.get st_b.next from⟨o,u,h1,h2,h3,h4,h5,h6,h7,h8,h9,DU⟩).frame (sd @Nat.zero_add) (by(try dsimp only);omega) (fun y hy=>by
     have h11:=dv hy
     simp only[go_sem, ↓reduceIte,Nat.reduceEqDiff,Nat.reduceAdd,Nat.reduceSub,Nat.reduceLeDiff,reduceCtorEq,h11])⟩)
   ·rw[uD hf]at zd
    (try((repeat(revert hN;revert N;apply Pn.out));refine wk (tw @b11 (tw @b0 (tw @b1 (tw @b9 (tw @hf @kh))))) ?_;(repeat(refine Pn.mk ?_;intro N hN))))
    refine .inr (aJ _ _ _ _ _ (fun r σ2 hq=>?_) (NU.val (fun n=>JI T.2 (by omega) (aL l i).aP (aL l i).aT n) (by
     have hp:=F2 (g:=bt (bt st_b.get ⟨103011017,st_b.next+1⟩ ⟨true,3,[[.int .i64 0,.int .i64 0,.int .i64 0]]⟩) ⟨103011017,st_b.next+1⟩ ⟨true,3,[[.int .i64 (aL l i).aP.fb,.int .i64 (aL l i).aP.eV,.int .i64 (aL l i).aT]]⟩) (X:=⟨103004002,x1⟩) (o:=o) (L:=T.2) (sd (tw @vX @h1)) (sd (tw @vo @h2))
     simp only[ai,aq,hp,bl,aI,Option.map_some]
     rfl)))
    obtain⟨⟨o2,rfl,p1,p2,p3⟩,hK⟩:=hq
    obtain⟨g2,x2⟩:=σ2
    (try dsimp only at p1 p2 p3 hK)
    have LY:=hK.1
    (try dsimp only at LY)
    have hXb:x1<st_b.next:=by(try dsimp only at DU);omega
    have kX:=hK.2 ⟨103004002,x1⟩ (by(try dsimp only);omega)
    have ku:=hK.2 u (by(try dsimp only);omega)
    have kt:=hK.2 ⟨103011017,st_b.next+1⟩ (by(try dsimp only);omega)
    simp only[go_sem, ↓reduceIte,Nat.reduceEqDiff,Nat.reduceAdd,Nat.reduceSub,Nat.reduceLeDiff,reduceCtorEq,vX,vu,h1,h4]at kX ku kt
    have mD:=pH (aL l i) T.2
    have hpe:iK T.2 ⟨(aL l i).aP,(aL l i).aT⟩=iK T.2 (aL l i):=rfl
    rw[hpe]at p1 ⊢
    refine hN _ _ ?_
    clear hN N
    have Vv:(T.1.map aa).length=T.1.length:=by simp
    have Tv:T.1.length<=16777215:=by omega
    have uX:=eq_false h6
    have uX2:=eq_false (fun e:u=⟨103004002,x1⟩=>h6 e.symm)
    have ou:=eq_false h5
    have VL:=dv (i:=u) (n:=x2) (by omega)
    have vX2:=dv (i:=⟨103004002,x1⟩) (n:=x2) (by(try dsimp only);omega)
    have TI:=dv (i:=⟨103011017,st_b.next+1⟩) (n:=x2) (by(try dsimp only);omega)
    have ut:=cH (a:=u) (b:=⟨103011017,st_b.next+1⟩) (by(try dsimp only);omega)
    (try((repeat(revert hN;revert N;apply Pn.out));refine wk (tw @b11 (tw @b0 (tw @b1 (tw @b9 (tw @kX (tw @ku (tw @kt (tw @h3 (tw @uX (tw @uX2 (tw @ut (tw @VL (tw @vX2 (tw @TI (tw @Vv @Tv))))))))))))))) ?_;(repeat(refine Pn.mk ?_;intro N hN))))
    have hd:decide ((T.1++[aL l i]).length≠S.1.length)=true:=decide_eq_true (by rw[iU];omega)
    have yp:=iU T.1 (aL l i)
    have sk:=sE T.1 (aL l i)
    have Sr:=dv (i:=o2) (n:=x2) (by omega)
    have uo2:=cH (a:=u) (b:=o2) (by omega)
    have X2:=cH (a:=⟨103004002,x1⟩) (b:=o2) (by(try dsimp only);omega)
    exact gp (sd (tw @b11 (tw @b0 (tw @b1 @b9)))) (by(try dsimp only);exact⟨by rw[zd,hd]<;>simp only[go_sem, ↓reduceIte,Nat.reduceEqDiff,Nat.reduceAdd,Nat.reduceSub,Nat.reduceLeDiff,reduceCtorEq],by
     rw[zd]
     exact⟨o2,⟨103014003,x2+1⟩,sl (tw @vX2 (tw @uX @mD)),sd (tw @Sr (tw @uo2 (tw @X2 @p1))),by rw[yp];simp only[go_sem, ↓reduceIte,Nat.reduceEqDiff,Nat.reduceAdd,Nat.reduceSub,Nat.reduceLeDiff,reduceCtorEq]<;>rfl,by rw[sk];simp only[go_sem, ↓reduceIte,Nat.reduceEqDiff,Nat.reduceAdd,Nat.reduceSub,Nat.reduceLeDiff,reduceCtorEq]<;>rfl,fun e=>by rw[e]at p3;(try dsimp only at p3);omega,fun e=>by injection e with e1 e2;revert e1;decide,by(try dsimp only);omega,fun e=>by rw[<-e]at p2;(try dsimp only at p2);omega,by(try dsimp only);omega,by(try dsimp only);omega⟩⟩)
  ·have lV:i=l.length:=by omega
   subst lV
   rw[p7]at Bl bL K0 Jf
   have rh:=zi hI hA hm
   (try((repeat(revert hN;revert N;apply Pn.out));refine wk (tw @b11 (tw @b0 (tw @b1 (tw @b9 @hi)))) ?_;(repeat(refine Pn.mk ?_;intro N hN))))
   have SR:Lm ⟨103004002,x1⟩ (gH s l S) (env_b 8) st_b.get st_b.next:=bL
   by_cases he:(gH s l S).1.length=S.1.length
   ·refine⟨0,by show 0<m;omega,gH s l S,0,false,rfl,?_,fun h=>(by cases h),fun _=>(rh.1 he).symm.trans hF,Bl,SR.frame (sd @Nat.zero_add) (by(try dsimp only);omega) fun x _=>rfl⟩
    simp only[go_sem, ↓reduceIte,Nat.reduceEqDiff,Nat.reduceAdd,Nat.reduceSub,Nat.reduceLeDiff,reduceCtorEq,K0,he]<;>simp
   ·obtain⟨m',rfl,LL,HY⟩:=rh.2 he
    refine⟨m',Nat.lt_succ_self _,gH s l S,m',true,rfl,?_,fun _=>⟨LL.symm.trans hF,HY⟩,fun h=>(by cases h),Bl,SR.frame (sd @Nat.zero_add) (by(try dsimp only);omega) fun x _=>rfl⟩
    have hd:=decide_eq_true he
    simp only[go_sem, ↓reduceIte,Nat.reduceEqDiff,Nat.reduceAdd,Nat.reduceSub,Nat.reduceLeDiff,reduceCtorEq,K0]
    rw[hd]
theorem AL {s:ax} {r a:List ad} (h:fa a r=false):tU s r a=([],false):=if_neg (by rw[h];simp)
theorem xC {s:ax} {r a:List ad} (h:fa a r=true):tU s r a=((kP (oI s a) r).1,decide (((kP (oI s a) r).2.length:Int)=(r.length:Int))):=if_pos h
theorem El (s:ax) (r a:List ad) (hn:gF s.aD) (hg:s.aD.ay.length<=1048576) (ht:s.aD.ae.length<=1048576):aj Tryz.prog 102 [.dn (au s),.dn [.sl (r.map aa)],.dn [.sl (a.map aa)]] (.int .i64 (j4 s r a)):=by
 refine aj.body eI rfl fun hl n0=>?_
 clear hl
 have h1:=Mj s hn hg ht
 have h2:=(Ap s.aD r).cut mixed (.ptr _ [.sl (s.aX.ae.map aa),.int .i64 s.aA] (.same _ .nil))
 have h3:=(Ap s.aD a).cut mixed (.ptr _ [.sl (s.aX.ae.map aa),.int .i64 s.aA] (.same _ .nil))
 cases b1:lv s
 ·rw[b1]at h1
  (repeat(first|((repeat(revert hN;revert N;apply Pn.out));refine wk @Nat.zero_add ?_;(repeat(refine Pn.mk ?_;intro N hN)))|((try apply Or.inl);refine⟨_,aj.x (h1) (sd @Nat.zero_add),?_⟩;refine hN _ _ ?_;clear hN N)))
  exact cr (b:=1) (.inl rfl) (sd @Nat.zero_add) (by rw[j4,b1];rfl)
 have hP:=ko.1 b1
 rw[b1]at h1
 rw[au]at h1 ⊢
 rw[ab]at h2 h3
 cases b2:kM s.aD r
 ·rw[b2]at h2
  (repeat(first|((repeat(revert hN;revert N;apply Pn.out));refine wk @ab.eq_1 ?_;(repeat(refine Pn.mk ?_;intro N hN)))|((try apply Or.inl);refine⟨_,aj.x (h1) (sd @ab.eq_1),?_⟩;refine hN _ _ ?_;clear hN N)|((try apply Or.inl);refine⟨_,aj.x (h2) (sd @ab.eq_1),?_⟩;refine hN _ _ ?_;clear hN N)))
  exact cr (b:=1) (.inl rfl) (sd @Nat.zero_add) (by rw[j4,b1,b2];rfl)
 have hR:=gi.1 b2
 rw[b2]at h2
 cases b3:kM s.aD a
 ·rw[b3]at h3
  (repeat(first|((repeat(revert hN;revert N;apply Pn.out));refine wk @ab.eq_1 ?_;(repeat(refine Pn.mk ?_;intro N hN)))|((try apply Or.inl);refine⟨_,aj.x (h1) (sd @ab.eq_1),?_⟩;refine hN _ _ ?_;clear hN N)|((try apply Or.inl);refine⟨_,aj.x (h2) (sd @ab.eq_1),?_⟩;refine hN _ _ ?_;clear hN N)|((try apply Or.inl);refine⟨_,aj.x (h3) (sd @ab.eq_1),?_⟩;refine hN _ _ ?_;clear hN N)))
  exact cr (b:=1) (.inl rfl) (sd @Nat.zero_add) (by rw[j4,b1,b2,b3];rfl)
 have hA:=gi.1 b3
 rw[b3]at h3
 have h4:=(l7 s.aX.ae r hR.1.Dm (by have:=hR.1.oJ;omega) (by have:=hP.rJ.1.oJ;omega)).cut mixed (.ptr _ [.int .i64 s.aA] (.same _ .nil))
 have h5:=(l7 s.aX.ae a hA.1.Dm (by have:=hA.1.oJ;omega) (by have:=hP.rJ.1.oJ;omega)).cut mixed (.ptr _ [.int .i64 s.aA] (.same _ .nil))
 cases b4:fa s.aX.ae r
 ·rw[b4]at h4
  (repeat(first|((repeat(revert hN;revert N;apply Pn.out));refine wk @ab.eq_1 ?_;(repeat(refine Pn.mk ?_;intro N hN)))|((try apply Or.inl);refine⟨_,aj.x (h1) (sd @ab.eq_1),?_⟩;refine hN _ _ ?_;clear hN N)|((try apply Or.inl);refine⟨_,aj.x (h2) (sd @ab.eq_1),?_⟩;refine hN _ _ ?_;clear hN N)|((try apply Or.inl);refine⟨_,aj.x (h3) (sd @ab.eq_1),?_⟩;refine hN _ _ ?_;clear hN N)|((try apply Or.inl);refine⟨_,aj.x (h4) (sd @ab.eq_1),?_⟩;refine hN _ _ ?_;clear hN N)))
  exact cr (b:=2) (.inl rfl) (sd @Nat.zero_add) (by rw[j4,b1,b2,b3,b4];rfl)
 rw[b4]at h4
 cases b5:fa s.aX.ae a
 ·rw[b5]at h5
  (repeat(first|((repeat(revert hN;revert N;apply Pn.out));refine wk @ab.eq_1 ?_;(repeat(refine Pn.mk ?_;intro N hN)))|((try apply Or.inl);refine⟨_,aj.x (h1) (sd @ab.eq_1),?_⟩;refine hN _ _ ?_;clear hN N)|((try apply Or.inl);refine⟨_,aj.x (h2) (sd @ab.eq_1),?_⟩;refine hN _ _ ?_;clear hN N)|((try apply Or.inl);refine⟨_,aj.x (h3) (sd @ab.eq_1),?_⟩;refine hN _ _ ?_;clear hN N)|((try apply Or.inl);refine⟨_,aj.x (h4) (sd @ab.eq_1),?_⟩;refine hN _ _ ?_;clear hN N)|((try apply Or.inl);refine⟨_,aj.x (h5) (sd @ab.eq_1),?_⟩;refine hN _ _ ?_;clear hN N)))
  exact cr (b:=2) (.inl rfl) (sd @Nat.zero_add) (by rw[j4,b1,b2,b3,b4,b5];rfl)
 ·rw[b5]at h5
  (repeat(first|((repeat(revert hN;revert N;apply Pn.out));refine wk @ab.eq_1 ?_;(repeat(refine Pn.mk ?_;intro N hN)))|((try apply Or.inl);refine⟨_,aj.x (h1) (sd @ab.eq_1),?_⟩;refine hN _ _ ?_;clear hN N)|((try apply Or.inl);refine⟨_,aj.x (h2) (sd @ab.eq_1),?_⟩;refine hN _ _ ?_;clear hN N)|((try apply Or.inl);refine⟨_,aj.x (h3) (sd @ab.eq_1),?_⟩;refine hN _ _ ?_;clear hN N)|((try apply Or.inl);refine⟨_,aj.x (h4) (sd @ab.eq_1),?_⟩;refine hN _ _ ?_;clear hN N)|((try apply Or.inl);refine⟨_,aj.x (h5) (sd @ab.eq_1),?_⟩;refine hN _ _ ?_;clear hN N)))
  exact cr (b:=0) (.inl rfl) (sd @Nat.zero_add) (by rw[j4,b1,b2,b3,b4,b5];rfl)
theorem AK (s:ax) (r a:List ad) (hn:gF s.aD) (hm:ui s) (hr:r.length<=1048576) (ha:a.length<=1048576):aj Tryz.prog 104 [.agg (au s),.agg [.sl (r.map aa)],.agg [.sl (a.map aa)]] (.int .i64 (j4 s r a)):=by
 refine aj.body eI rfl fun hl n0=>?_
 clear hl
 have h1:=sf s r hn hm hr
 have h2:=sf s a hn hm ha
 cases b1:yd s r
 ·rw[b1]at h1
  have he:j4 s r a=1:=by
   have:(lv s&&(kM s.aD r&&kM s.aD a))=false:=by rw[<-Bool.and_assoc];unfold yd at b1;rw[b1,Bool.false_and]
   rw[j4,this];rfl
  rw[au]at h1 ⊢
  (repeat(first|((repeat(revert hN;revert N;apply Pn.out));refine wk @Nat.zero_add ?_;(repeat(refine Pn.mk ?_;intro N hN)))|((try apply Or.inl);refine⟨_,aj.x (h1) (sd @Nat.zero_add),?_⟩;refine hN _ _ ?_;clear hN N)))
  exact cr (b:=1) (.inl rfl) (sd @Nat.zero_add) he.symm
 obtain⟨hP,hR⟩:=BA.1 b1
 rw[b1]at h1
 cases b2:yd s a
 ·rw[b2]at h2
  have hs:lv s=true:=ko.2 hP
  have he:j4 s r a=1:=by
   have:kM s.aD a=false:=by unfold yd at b2;rw[hs,Bool.true_and]at b2;exact b2
   rw[j4,this,Bool.and_false,Bool.and_false];rfl
  rw[au]at h1 h2 ⊢
  (repeat(first|((repeat(revert hN;revert N;apply Pn.out));refine wk @Nat.zero_add ?_;(repeat(refine Pn.mk ?_;intro N hN)))|((try apply Or.inl);refine⟨_,aj.x (h1) (sd @Nat.zero_add),?_⟩;refine hN _ _ ?_;clear hN N)|((try apply Or.inl);refine⟨_,aj.x (h2) (sd @Nat.zero_add),?_⟩;refine hN _ _ ?_;clear hN N)))
  exact cr (b:=1) (.inl rfl) (sd @Nat.zero_add) he.symm
 obtain⟨_,hA⟩:=BA.1 b2
 rw[b2]at h2
 have dE:(lv s&&(kM s.aD r&&kM s.aD a))=true:=by rw[ko.2 hP,gi.2 hR,gi.2 hA];rfl
 have h3:=qI s.aX.ae r hP.rJ.1 hR.1
 have h4:=qI s.aX.ae a hP.rJ.1 hA.1
 rw[au]at h1 h2 ⊢
 cases b3:fa s.aX.ae r
 ·rw[b3]at h3
  (repeat(first|((repeat(revert hN;revert N;apply Pn.out));refine wk @Nat.zero_add ?_;(repeat(refine Pn.mk ?_;intro N hN)))|((try apply Or.inl);refine⟨_,aj.x (h1) (sd @Nat.zero_add),?_⟩;refine hN _ _ ?_;clear hN N)|((try apply Or.inl);refine⟨_,aj.x (h2) (sd @Nat.zero_add),?_⟩;refine hN _ _ ?_;clear hN N)|((try apply Or.inl);refine⟨_,aj.x (h3) (sd @Nat.zero_add),?_⟩;refine hN _ _ ?_;clear hN N)))
  exact cr (b:=2) (.inl rfl) (sd @Nat.zero_add) (by rw[j4,dE,b3];rfl)
 rw[b3]at h3
 cases b4:fa s.aX.ae a
 ·rw[b4]at h4
  (repeat(first|((repeat(revert hN;revert N;apply Pn.out));refine wk @Nat.zero_add ?_;(repeat(refine Pn.mk ?_;intro N hN)))|((try apply Or.inl);refine⟨_,aj.x (h1) (sd @Nat.zero_add),?_⟩;refine hN _ _ ?_;clear hN N)|((try apply Or.inl);refine⟨_,aj.x (h2) (sd @Nat.zero_add),?_⟩;refine hN _ _ ?_;clear hN N)|((try apply Or.inl);refine⟨_,aj.x (h3) (sd @Nat.zero_add),?_⟩;refine hN _ _ ?_;clear hN N)|((try apply Or.inl);refine⟨_,aj.x (h4) (sd @Nat.zero_add),?_⟩;refine hN _ _ ?_;clear hN N)))
  exact cr (b:=2) (.inl rfl) (sd @Nat.zero_add) (by rw[j4,dE,b3,b4];rfl)
 ·rw[b4]at h4
  (repeat(first|((repeat(revert hN;revert N;apply Pn.out));refine wk @Nat.zero_add ?_;(repeat(refine Pn.mk ?_;intro N hN)))|((try apply Or.inl);refine⟨_,aj.x (h1) (sd @Nat.zero_add),?_⟩;refine hN _ _ ?_;clear hN N)|((try apply Or.inl);refine⟨_,aj.x (h2) (sd @Nat.zero_add),?_⟩;refine hN _ _ ?_;clear hN N)|((try apply Or.inl);refine⟨_,aj.x (h3) (sd @Nat.zero_add),?_⟩;refine hN _ _ ?_;clear hN N)|((try apply Or.inl);refine⟨_,aj.x (h4) (sd @Nat.zero_add),?_⟩;refine hN _ _ ?_;clear hN N)))
  exact cr (b:=0) (.inl rfl) (sd @Nat.zero_add) (by rw[j4,dE,b3,b4];rfl)
theorem rT (s:ax) (r a:List ad) (hn:gF s.aD) (hg:s.aD.ay.length<=1048576) (ht:s.aD.ae.length<=1048576):∃w,jN aa (pJ s r a).1 w/\kq Tryz.prog 46 [.agg (au s),.agg [.sl (r.map aa)],.agg [.sl (a.map aa)]] (.gO [w,.int .i64 (pJ s r a).2]):=by
 have h1:=El s r a hn hg ht
 refine⟨.sl ((pJ s r a).1.map aa),.inr rfl,?_⟩
 refine kq.body eI rfl fun nB σ=>?_
 clear nB
 by_cases h0:j4 s r a=0
 ·have hR:=xu.1 h0
  rw[h0]at h1
  have h2:aj Tryz.prog 103 [.dn (au s),.dn [.sl (r.map aa)],.dn [.sl (a.map aa)]] (.gO [.sl ((tU s r a).1.map aa),.bool (tU s r a).2]):=by
   cases bw:fa a r
   ·rw[AL bw]
    refine aj.body eI rfl fun nB n0=>?_
    clear nB
    have JA:=l7 a r hR.right.1.Dm (by have:=hR.right.1.oJ;omega) (by have:=hR.N3.1.oJ;omega)
    rw[bw]at JA
    (repeat(first|((repeat(revert hN;revert N;apply Pn.out));refine wk @Nat.zero_add ?_;(repeat(refine Pn.mk ?_;intro N hN)))|((try apply Or.inl);refine⟨_,aj.x (JA) (sd @Nat.zero_add),?_⟩;refine hN _ _ ?_;clear hN N)))
    exact pK (.inl rfl) (vs:=[.own ⟨103001000,n0+1⟩ 0 0,.bool false]) (sd @Nat.zero_add) (by
     simp only[fj,eY,bD,cF,fo]
     have:=fJ (e:=aa) (g:=bt (fun _=>none) ⟨103001000,n0+1⟩ ⟨true,3,[]⟩) (l:=[]) (sz:=3) (len:=0) (id:=⟨103001000,n0+1⟩) (n:=4) (sl @Nat.zero_add) rfl (fun x=>Ng _ 3 x)
     rw[this];rfl)
   ·rw[xC bw]
    exact JL s a hR.sys.w hR.w r hR.right bw
  rcases hq:tU s r a with⟨L,b⟩
  rw[hq]at h2
  (try dsimp only at h2)
  rw[au]at h1 h2 ⊢
  cases b
  ·have hr:pJ s r a=([],3):=by rw[pJ,if_pos h0,hq];rfl
   rw[hr]
   (repeat(first|((repeat(revert hN;revert N;apply Pn.out));refine wk @Nat.zero_add ?_;(repeat(refine Pn.mk ?_;intro N hN)))|((try apply Or.inl);refine⟨_,aj.x (h1) (sd @Nat.zero_add),?_⟩;refine hN _ _ ?_;clear hN N)|((try apply Or.inl);refine⟨_,aj.x (h2) (sd @Nat.zero_add),?_⟩;refine hN _ _ ?_;clear hN N)))
   exact yD (.inl rfl) (vs:=[.own ⟨46006000,σ.next+1+1+1+1+1⟩ 0 0,.int .i64 3]) (sd @Nat.zero_add) (by
    simp[fj,bH,ai,aq,aI,gV,dP,bt,dU])
  ·have hr:pJ s r a=(L,0):=by rw[pJ,if_pos h0,hq];rfl
   rw[hr]
   (repeat(first|((repeat(revert hN;revert N;apply Pn.out));refine wk @Nat.zero_add ?_;(repeat(refine Pn.mk ?_;intro N hN)))|((try apply Or.inl);refine⟨_,aj.x (h1) (sd @Nat.zero_add),?_⟩;refine hN _ _ ?_;clear hN N)|((try apply Or.inl);refine⟨_,aj.x (h2) (sd @Nat.zero_add),?_⟩;refine hN _ _ ?_;clear hN N)))
   exact yD (.inl rfl) (vs:=[.sl (L.map aa),.int .i64 0]) (sd @Nat.zero_add) (by simp only[fj,bH,ai,aq,cz,aI,Option.map_some])
 ·have hd:decide (j4 s r a=0)=false:=decide_eq_false h0
  have hr:pJ s r a=([],j4 s r a):=by rw[pJ,if_neg h0]
  rw[hr]
  rw[au]at h1 ⊢
  (repeat(first|((repeat(revert hN;revert N;apply Pn.out));refine wk @hd ?_;(repeat(refine Pn.mk ?_;intro N hN)))|((try apply Or.inl);refine⟨_,aj.x (h1) (sd @hd),?_⟩;refine hN _ _ ?_;clear hN N)))
  exact yD (.inl rfl) (vs:=[.own ⟨46003000,σ.next+1+1+1⟩ 0 0,.int .i64 (j4 s r a)]) (sd @Nat.zero_add) (by simp[fj,bH,ai,aq,aI,gV,dP,bt,dU])
theorem Hq (s:ax) (r a:List ad) (h:Gi s r a) (σ:ar):Call Tryz.prog 105 [.agg (au s),.agg [.sl (r.map aa)],.agg [.sl (a.map aa)]] σ (fun R σ'=>∃v,R=.gO [v,.bool (tU s r a).2]/\(((tU s r a).1=[]/\v=.cC)∨∃u:Id,v=.own u 0 (tU s r a).1.length/\σ'.get u=some ⟨true,3,(tU s r a).1.map aa⟩/\σ.next<=u.bW/\u.bW<σ'.next/\0<(tU s r a).1.length)/\σ.next<=σ'.next):=by
 refine eW eI rfl fun nB=>?_
 clear nB
 have h1:=qI a r h.N3.1 h.right.1
 cases bw:fa a r
 ·rw[bw]at h1
  rw[AL bw]
  (repeat(first|((repeat(revert hN;revert N;apply Pn.out));refine wk @au.eq_1 ?_;(repeat(refine Pn.mk ?_;intro N hN)))|((try apply Or.inl);refine⟨_,aj.x (h1) (sd @au.eq_1),?_⟩;refine hN _ _ ?_;clear hN N)))
  exact ft (.inl rfl) (vs:=[.cC,.bool false]) (sd @Nat.zero_add) ⟨.cC,rfl,.inl ⟨by first|exact rfl|trivial,rfl⟩,by(try dsimp only);omega⟩
 ·rw[bw]at h1
  rw[xC bw]
  have hc:=fun σ=>JD (oI s a) h.w r h.right bw σ
  have rO:(r.map aa).length=r.length:=by simp
  have Rp:(kP (oI s a) r).2.length<=16777215:=by
   have h2:=(Cn h.w h.right bw).oJ
   have h3:=h.right.1.oJ
   omega
  obtain⟨R,hR⟩:∃R,kP (oI s a) r=R:=⟨_,rfl⟩
  rw[hR]at hc Rp ⊢
  rw[au]at hc
  (try dsimp only[oI]at hc)
  (repeat(first|((repeat(revert hN;revert N;apply Pn.out));refine wk @au.eq_1 ?_;(repeat(refine Pn.mk ?_;intro N hN)))|((try apply Or.inl);refine⟨_,aj.x (h1) (sd @au.eq_1),?_⟩;refine hN _ _ ?_;clear hN N)))
  refine .inr (aJ _ _ _ _ _ (fun q σ1 hq=>?_) (hc _))
  obtain⟨g1,x1⟩:=σ1
  obtain⟨v,o,rfl,hv,ho,ho2,ho3,jV⟩:=hq
  (try dsimp only at hv ho ho2 ho3 jV)
  have k1:=jV ⟨105000001,σ.next⟩ (by(try dsimp only);omega)
  simp only[go_sem, ↓reduceIte,Nat.reduceEqDiff,Nat.reduceAdd,Nat.reduceSub,Nat.reduceLeDiff,reduceCtorEq]at k1
  refine hN _ _ ?_
  clear hN N
  have uA:v.cells=[v]/\v.cell=true:=by rcases hv with⟨_,rfl⟩|⟨u,rfl,_⟩<;>exact⟨rfl,rfl⟩
  have Jw:=uA.1
  have NB:=uA.2
  unfold AV.cells at Jw
  unfold AV.cell at NB
  (try((repeat(revert hN;revert N;apply Pn.out));refine wk (tw @k1 (tw @rO @ho)) ?_;(repeat(refine Pn.mk ?_;intro N hN))))
  refine ft (.inl rfl) (vs:=[v,.bool (decide ((R.2.length:Int)=(r.length:Int)))]) (sd @Nat.zero_add) ⟨v,rfl,?_,by(try dsimp only);omega⟩
  rcases hv with⟨h2,rfl⟩|⟨u,rfl,h3,h4,h5,h6,h7⟩
  ·exact .inl ⟨h2,rfl⟩
  ·have vu:=dv h5
   exact .inr ⟨u,rfl,sd (tw @vu @h3),by omega,by(try dsimp only);omega,h7⟩
theorem rS (s:ax) (r a:List ad) (hn:gF s.aD) (hm:ui s) (hr:r.length<=1048576) (ha:a.length<=1048576):we Tryz.prog 47 [.agg (au s),.agg [.sl (r.map aa)],.agg [.sl (a.map aa)]] aa 3 (pJ s r a).1 (pJ s r a).2:=by
 intro n0
 have h1:=AK s r a hn hm hr ha
 refine eW eI rfl fun nB=>?_
 clear nB
 by_cases h0:j4 s r a=0
 ·have hR:=xu.1 h0
  have hc:=fun σ=>Hq s r a hR σ
  rw[h0]at h1
  rw[pJ,if_pos h0]
  rcases hq:tU s r a with⟨L,b⟩
  rw[hq]at hc
  (try dsimp only at hc ⊢)
  rw[au]at h1 hc ⊢
  cases b
  ·(repeat(first|((repeat(revert hN;revert N;apply Pn.out));refine wk @Nat.zero_add ?_;(repeat(refine Pn.mk ?_;intro N hN)))|((try apply Or.inl);refine⟨_,aj.x (h1) (sd @Nat.zero_add),?_⟩;refine hN _ _ ?_;clear hN N)))
   refine .inr (aJ _ _ _ _ _ (fun q σ1 hq=>?_) (hc _))
   obtain⟨g1,x1⟩:=σ1
   obtain⟨v,rfl,hv,hx⟩:=hq
   have uA:v.cells=[v]/\v.cell=true:=by rcases hv with⟨_,rfl⟩|⟨u,rfl,_⟩<;>exact⟨rfl,rfl⟩
   have Jw:=uA.1
   have NB:=uA.2
   unfold AV.cells at Jw
   unfold AV.cell at NB
   refine hN _ _ ?_
   clear hN N
   (try((repeat(revert hN;revert N;apply Pn.out));refine wk @Nat.zero_add ?_;(repeat(refine Pn.mk ?_;intro N hN))))
   exact ft (.inl rfl) (vs:=[.cC,.int .i64 3]) (sd @Nat.zero_add) ⟨.cC,[],rfl,.inl ⟨by first|exact rfl|trivial,rfl,rfl⟩,⟨List.nodup_nil,fun i hi=>by cases hi⟩⟩
  ·(repeat(first|((repeat(revert hN;revert N;apply Pn.out));refine wk @Nat.zero_add ?_;(repeat(refine Pn.mk ?_;intro N hN)))|((try apply Or.inl);refine⟨_,aj.x (h1) (sd @Nat.zero_add),?_⟩;refine hN _ _ ?_;clear hN N)))
   refine .inr (aJ _ _ _ _ _ (fun q σ1 hq=>?_) (hc _))
   obtain⟨g1,x1⟩:=σ1
   obtain⟨v,rfl,hv,hx⟩:=hq
   (try dsimp only at hv hx)
   refine hN _ _ ?_
   clear hN N
   (try((repeat(revert hN;revert N;apply Pn.out));refine wk @Nat.zero_add ?_;(repeat(refine Pn.mk ?_;intro N hN))))
   refine ft (.inl rfl) (vs:=[v,.int .i64 0]) (sd @Nat.zero_add) ?_
   rcases hv with⟨h2,rfl⟩|⟨u,rfl,h3,h4,h5,h7⟩
   ·exact⟨.cC,[],rfl,.inl ⟨h2,rfl,rfl⟩,⟨List.nodup_nil,fun i hi=>by cases hi⟩⟩
   ·exact⟨_,[u],rfl,.inr ⟨u,rfl,sd @h3,rfl,h7⟩,⟨List.nodup_cons.2 ⟨by simp,List.nodup_nil⟩,fun i hi=>by rw[List.mem_singleton.1 hi];(try dsimp only);omega⟩⟩
 ·have hd:decide (j4 s r a=0)=false:=decide_eq_false h0
  have hr:pJ s r a=([],j4 s r a):=by rw[pJ,if_neg h0]
  rw[hr]
  rw[au]at h1 ⊢
  (repeat(first|((repeat(revert hN;revert N;apply Pn.out));refine wk @hd ?_;(repeat(refine Pn.mk ?_;intro N hN)))|((try apply Or.inl);refine⟨_,aj.x (h1) (sd @hd),?_⟩;refine hN _ _ ?_;clear hN N)))
  exact ft (.inl rfl) (vs:=[.cC,.int .i64 (j4 s r a)]) (sd @Nat.zero_add) ⟨.cC,[],rfl,.inl ⟨rfl,rfl,rfl⟩,⟨List.nodup_nil,fun i hi=>by cases hi⟩⟩
theorem Ki {s:ax} {r a:List ad}:(pJ s r a).1.length<=1152921504606846976:=by
 unfold pJ
 split
 ·rename_i h0
  have h:=xu.1 h0
  split
  ·(try dsimp only)
   cases bw:fa a r
   ·rw[AL bw];simp
   ·rw[xC bw]
    have h2:=Cn h.w h.right bw
    have h3:=h2.oJ
    have h4:=h2.len
    have h5:=h.right.1.oJ
    (try dsimp only);omega
  ·simp
 ·simp
theorem Q3 {g:Rows} {u v w u' v' w':AV} (h0:fz g 6 u=some u') (h1:fz g 6 v=some v') (h2:fz g 6 w=some w'):cV g 6 [u,v,w]=some [u',v',w']:=by
 simp only[ai,aq,h0,h1,h2,Option.map_some]
theorem Ml (Qf:ax->dM->dM->List ad×Int)
  (RM:∀s r a,gF s.aD->ui s->r.ae.length<=1048576->a.ae.length<=1048576->∃w,jN aa (Qf s r a).1 w/\kq Tryz.prog 46 [.agg (au s),.agg (aC r),.agg (aC a)] (.gO [w,.int .i64 (Qf s r a).2]))
  (Ry:∀s r a,gF s.aD->ui s->r.ae.length<=1048576->a.ae.length<=1048576->we Tryz.prog 47 [.agg (au s),.agg (aC r),.agg (aC a)] aa 3 (Qf s r a).1 (Qf s r a).2)
  (hlen:∀s r a,(Qf s r a).1.length<=1152921504606846976)
  (s:ax) (r a:dM) (hn:gF s.aD):aj Tryz.prog 8 [.agg (au s),.agg (aC r),.agg (aC a)] (.bool true):=by
 refine aj.body eI rfl fun hl n0=>?_
 clear hl
 have h1:=E0 s 1048576 (by omega) (by omega) hn
 by_cases hf:(s7 s:Int)<=1048576
 ·rw[iy hf]at h1
  have j9:¬(1048576:Int)-(s7 s:Int)<0:=by omega
  have h2:=nK r (1048576-s7 s) (by omega) (by omega)
  by_cases hg:(r.ae.length:Int)<=1048576-s7 s
  ·rw[iy hg]at h2
   have Ai:¬(1048576:Int)-(s7 s:Int)-(r.ae.length:Int)<0:=by omega
   have h3:=nK a (1048576-s7 s-r.ae.length) (by omega) (by omega)
   by_cases hh:(a.ae.length:Int)<=1048576-s7 s-r.ae.length
   ·rw[iy hh]at h3
    have Tg:¬(1048576:Int)-(s7 s:Int)-(r.ae.length:Int)-(a.ae.length:Int)<0:=by omega
    have sm:=HB (s:=s) (by omega)
    have am:a.ae.length<=1048576:=by omega
    have rm:r.ae.length<=1048576:=by omega
    have t1:=E9 s sm
    have t2:=nP a am
    have t3:=nP r rm
    obtain⟨w,hw,r1⟩:=RM s r a hn sm rm am
    have r2:=Ry s r a hn sm rm am
    have q1:=DJ s
    have q2:=sa a
    have q3:=sa r
    have hL:=hlen s r a
    obtain⟨⟨L,c⟩,hRe⟩:∃R,Qf s r a=R:=⟨_,rfl⟩
    rw[hRe]at r1 r2 hw hL
    (try dsimp only at r1 r2 hw hL)
    have JB:=fun σ=>E8 s sm σ
    have RY:=fun σ=>nL a am σ
    have HW:=fun σ=>nL r rm σ
    rw[au]at JB
    rw[aC]at RY HW
    have e2:decide (c=c)=true:=by simp
    rw[au]at h1
    rw[aC]at h2 h3
    (repeat(first|((repeat(revert hN;revert N;apply Pn.out));refine wk (tw @au.eq_1 (tw @aC.eq_1 (tw @j9 (tw @Ai @Tg)))) ?_;(repeat(refine Pn.mk ?_;intro N hN)))|((try apply Or.inl);refine⟨_,aj.x (h1) (sd (tw @au.eq_1 (tw @aC.eq_1 (tw @j9 (tw @Ai @Tg))))),?_⟩;refine hN _ _ ?_;clear hN N)|((try apply Or.inl);refine⟨_,aj.x (h2) (sd (tw @au.eq_1 (tw @aC.eq_1 (tw @j9 (tw @Ai @Tg))))),?_⟩;refine hN _ _ ?_;clear hN N)|((try apply Or.inl);refine⟨_,aj.x (h3) (sd (tw @au.eq_1 (tw @aC.eq_1 (tw @j9 (tw @Ai @Tg))))),?_⟩;refine hN _ _ ?_;clear hN N)))
    refine⟨_,kq.x (by rw[au]at t1;exact t1) _,?_⟩
    refine hN _ _ ?_
    clear hN N
    (try((repeat(revert hN;revert N;apply Pn.out));refine wk @aC.eq_1 ?_;(repeat(refine Pn.mk ?_;intro N hN))))
    refine⟨_,kq.x (by rw[aC]at t3;exact t3) _,?_⟩
    refine hN _ _ ?_
    clear hN N
    (try((repeat(revert hN;revert N;apply Pn.out));refine wk @aC.eq_1 ?_;(repeat(refine Pn.mk ?_;intro N hN))))
    refine⟨_,kq.x (by rw[aC]at t2;exact t2) _,?_⟩
    refine hN _ _ ?_
    clear hN N
    (try((repeat(revert hN;revert N;apply Pn.out));refine wk @Nat.zero_add ?_;(repeat(refine Pn.mk ?_;intro N hN))))
    refine⟨_,kq.x (by rw[au,aC,aC]at r1;exact r1) _,?_⟩
    refine hN _ _ ?_
    clear hN N
    (try((repeat(revert hN;revert N;apply Pn.out));refine wk @Nat.zero_add ?_;(repeat(refine Pn.mk ?_;intro N hN))))
    refine .inr (aJ _ _ _ _ _ (fun r' σ1 hq=>?_) (JB _))
    obtain⟨iX,hX,I3,Ql⟩:=hq
    obtain⟨g1,x1⟩:=σ1
    (try dsimp only at hX I3 Ql)
    obtain⟨A,B,C,j1,j2,j3,rfl,hA,hB,hC,rfl⟩:=hX.ex
    obtain⟨oA,rfl⟩:=hA.kG
    obtain⟨oB,rfl⟩:=hB.kG
    obtain⟨oC,rfl⟩:=hC.kG
    clear hA hB hC
    have nX:=Ql.1
    have bX:=I3.2
    (try dsimp only at nX bX)
    have kA:=Ql.2 ⟨8000000,n0⟩ (by(try dsimp only);omega)
    have kB:=Ql.2 ⟨8000001,n0⟩ (by(try dsimp only);omega)
    have kQ:=Ql.2 ⟨8000002,n0⟩ (by(try dsimp only);omega)
    simp only[go_sem, ↓reduceIte,Nat.reduceEqDiff,Nat.reduceAdd,Nat.reduceSub,Nat.reduceLeDiff,reduceCtorEq]at kA kB kQ
    refine hN _ _ ?_
    clear hN N
    (try((repeat(revert hN;revert N;apply Pn.out));refine wk (tw @kA (tw @kB @kQ)) ?_;(repeat(refine Pn.mk ?_;intro N hN))))
    refine .inr (aJ _ _ _ _ _ (fun r' σ2 hq=>?_) (HW _))
    obtain⟨iI,GI,Nh,Ni⟩:=hq
    obtain⟨g2,x2⟩:=σ2
    (try dsimp only at GI Nh Ni)
    obtain⟨E,rfl,hE⟩:=GI
    obtain⟨oE,rfl⟩:=hE.kG
    have hI:xZ g2 (.agg [.own oE 0 r.ae.length]) r iI:=⟨_,rfl,hE⟩
    have nI:=Ni.1
    have bI:=Nh.2
    (try dsimp only at nI bI)
    have jA:=Ni.2 ⟨8000000,n0⟩ (by(try dsimp only);omega)
    have jB:=Ni.2 ⟨8000001,n0⟩ (by(try dsimp only);omega)
    have jQ:=Ni.2 ⟨8000002,n0⟩ (by(try dsimp only);omega)
    have jX:=Ni.2 ⟨8012002,x1⟩ (by(try dsimp only);omega)
    have vA0:=dv (i:=⟨8000000,n0⟩) (n:=x1) (by(try dsimp only);omega)
    have vB0:=dv (i:=⟨8000001,n0⟩) (n:=x1) (by(try dsimp only);omega)
    have vQ0:=dv (i:=⟨8000002,n0⟩) (n:=x1) (by(try dsimp only);omega)
    simp only[go_sem, ↓reduceIte,Nat.reduceEqDiff,Nat.reduceAdd,Nat.reduceSub,Nat.reduceLeDiff,reduceCtorEq,kA,kB,kQ,vA0,vB0,vQ0]at jA jB jQ jX
    have hX1:=hX.frame (g':=g2) fun i hi=>by
     have h3:=bX i hi
     have h4:=Ni.2 i (by(try dsimp only);omega)
     have h5:=dv (i:=i) (n:=x1) (by omega)
     simp only[go_sem, ↓reduceIte,Nat.reduceEqDiff,Nat.reduceAdd,Nat.reduceSub,Nat.reduceLeDiff,reduceCtorEq,h5]at h4
     exact h4
    clear hX Ql Ni hE kA kB kQ
    refine hN _ _ ?_
    clear hN N
    (try((repeat(revert hN;revert N;apply Pn.out));refine wk (tw @jA (tw @jB (tw @jQ @jX))) ?_;(repeat(refine Pn.mk ?_;intro N hN))))
    refine .inr (aJ _ _ _ _ _ (fun r' σ3 hq=>?_) (RY _))
    obtain⟨iY,hY0,Qk,LN⟩:=hq
    obtain⟨g3,x3⟩:=σ3
    (try dsimp only at hY0 Qk LN)
    obtain⟨D,rfl,hD⟩:=hY0
    obtain⟨oD,rfl⟩:=hD.kG
    have hY:xZ g3 (.agg [.own oD 0 a.ae.length]) a iY:=⟨_,rfl,hD⟩
    have nY:=LN.1
    have bY:=Qk.2
    (try dsimp only at nY bY)
    have lA:=LN.2 ⟨8000000,n0⟩ (by(try dsimp only);omega)
    have lB:=LN.2 ⟨8000001,n0⟩ (by(try dsimp only);omega)
    have lQ:=LN.2 ⟨8000002,n0⟩ (by(try dsimp only);omega)
    have lX:=LN.2 ⟨8012002,x1⟩ (by(try dsimp only);omega)
    have lZ:=LN.2 ⟨8013002,x2⟩ (by(try dsimp only);omega)
    have vA1:=dv (i:=⟨8000000,n0⟩) (n:=x2) (by(try dsimp only);omega)
    have vB1:=dv (i:=⟨8000001,n0⟩) (n:=x2) (by(try dsimp only);omega)
    have vQ1:=dv (i:=⟨8000002,n0⟩) (n:=x2) (by(try dsimp only);omega)
    have vX1:=dv (i:=⟨8012002,x1⟩) (n:=x2) (by(try dsimp only);omega)
    simp only[go_sem, ↓reduceIte,Nat.reduceEqDiff,Nat.reduceAdd,Nat.reduceSub,Nat.reduceLeDiff,reduceCtorEq,jA,jB,jQ,jX,vA1,vB1,vQ1,vX1]at lA lB lQ lX lZ
    have Q2:∀i:Id,i.bW<x2->g3 i=g2 i:=fun i hi=>by
     have h4:=LN.2 i (by(try dsimp only);omega)
     have h5:=dv (i:=i) (n:=x2) hi
     simp only[go_sem, ↓reduceIte,Nat.reduceEqDiff,Nat.reduceAdd,Nat.reduceSub,Nat.reduceLeDiff,reduceCtorEq,h5]at h4
     exact h4
    have UE:=hX1.frame (g':=g3) fun i hi=>Q2 i (by have:=bX i hi;omega)
    have Ut:=hI.frame (g':=g3) fun i hi=>Q2 i (by have:=bI i hi;omega)
    clear hX1 hI LN hD jA jB jQ jX
    refine hN _ _ ?_
    clear hN N
    have uX:=dv (i:=⟨8012002,x1⟩) (n:=x3) (by(try dsimp only);omega)
    have uZ:=dv (i:=⟨8013002,x2⟩) (n:=x3) (by(try dsimp only);omega)
    (try((repeat(revert hN;revert N;apply Pn.out));refine wk (tw @lA (tw @lB (tw @lQ (tw @lX (tw @lZ (tw @uX @uZ)))))) ?_;(repeat(refine Pn.mk ?_;intro N hN))))
    refine .inr (aJ _ _ _ _ _ (fun r' σ4 hq=>?_) (Ia mixed (fun _=>rfl) r2 (Q3 ((UE.frame fun i hi=>by
     have h5:=dv (i:=i) (n:=x3) (by have:=bX i hi;omega)
     simp only[go_sem, ↓reduceIte,Nat.reduceEqDiff,Nat.reduceAdd,Nat.reduceSub,Nat.reduceLeDiff,reduceCtorEq,h5]).fz 1) ((Ut.frame fun i hi=>by
     have h5:=dv (i:=i) (n:=x3) (by have:=bI i hi;omega)
     simp only[go_sem, ↓reduceIte,Nat.reduceEqDiff,Nat.reduceAdd,Nat.reduceSub,Nat.reduceLeDiff,reduceCtorEq,h5]).fz 2) ((hY.frame fun i hi=>by
     have h5:=dv (i:=i) (n:=x3) (by have:=bY i hi;omega)
     simp only[go_sem, ↓reduceIte,Nat.reduceEqDiff,Nat.reduceAdd,Nat.reduceSub,Nat.reduceLeDiff,reduceCtorEq,h5]).fz 2))))
    obtain⟨v,iZ,rfl,hZ,Q6,K4⟩:=hq
    obtain⟨g4,x4⟩:=σ4
    (try dsimp only at hZ Q6 K4)
    have nZ:=K4.1
    have bZ:=Q6.2
    (try dsimp only at nZ bZ)
    have wA:=dv (i:=⟨8000000,n0⟩) (n:=x3) (by(try dsimp only);omega)
    have wB:=dv (i:=⟨8000001,n0⟩) (n:=x3) (by(try dsimp only);omega)
    have wQ:=dv (i:=⟨8000002,n0⟩) (n:=x3) (by(try dsimp only);omega)
    have mA:=K4.2 ⟨8000000,n0⟩ (by(try dsimp only);omega)
    have mB:=K4.2 ⟨8000001,n0⟩ (by(try dsimp only);omega)
    have mQ:=K4.2 ⟨8000002,n0⟩ (by(try dsimp only);omega)
    have mX:=K4.2 ⟨8012002,x1⟩ (by(try dsimp only);omega)
    have mZ:=K4.2 ⟨8013002,x2⟩ (by(try dsimp only);omega)
    have mY:=K4.2 ⟨8014002,x3⟩ (by(try dsimp only);omega)
    simp only[go_sem, ↓reduceIte,Nat.reduceEqDiff,Nat.reduceAdd,Nat.reduceSub,Nat.reduceLeDiff,reduceCtorEq,lA,lB,lQ,lX,lZ,wA,wB,wQ,uX,uZ]at mA mB mQ mX mZ mY
    have Uc:∀i:Id,i.bW<x3->g4 i=g3 i:=fun i hi=>by
     have h4:=K4.2 i (by(try dsimp only);omega)
     have h5:=dv (i:=i) (n:=x3) hi
     simp only[go_sem, ↓reduceIte,Nat.reduceEqDiff,Nat.reduceAdd,Nat.reduceSub,Nat.reduceLeDiff,reduceCtorEq,h5]at h4
     exact h4
    have UF:=UE.frame (g':=g4) fun i hi=>Uc i (by have:=bX i hi;omega)
    have Uu:=Ut.frame (g':=g4) fun i hi=>Uc i (by have:=bI i hi;omega)
    have UG:=hY.frame (g':=g4) fun i hi=>Uc i (by have:=bY i hi;omega)
    clear UE Ut hY K4 lA lB lQ lX lZ
    obtain⟨wv,qE,OU⟩:=hZ.fz fun x g=>by simp[aa,ai,aq,aI]
    refine hN _ _ ?_
    clear hN N
    (try((repeat(revert hN;revert N;apply Pn.out));refine wk (tw @mA (tw @mB (tw @mQ (tw @mX (tw @mZ @mY))))) ?_;(repeat(refine Pn.mk ?_;intro N hN))))
    refine .inl ⟨_,aj.x (tr OU hw) (xQ qE (hw.fz _)),?_⟩
    refine hN _ _ ?_
    clear hN N
    (try((repeat(revert hN;revert N;apply Pn.out));refine wk (tw @mA (tw @mB (tw @mQ (tw @mX (tw @mZ (tw @mY @e2)))))) ?_;(repeat(refine Pn.mk ?_;intro N hN))))
    refine⟨_,kq.x (by rw[au]at t1;exact t1) _,?_⟩
    refine hN _ _ ?_
    clear hN N
    (try((repeat(revert hN;revert N;apply Pn.out));refine wk (tw @mA (tw @mB (tw @mQ (tw @mX (tw @mZ (tw @mY @e2)))))) ?_;(repeat(refine Pn.mk ?_;intro N hN))))
    refine⟨_,aj.x (by rw[au]at q1;exact q1) (by rw[<-au];exact MT UF (Fv _ _)),?_⟩
    refine hN _ _ ?_
    clear hN N
    (try((repeat(revert hN;revert N;apply Pn.out));refine wk (tw @mA (tw @mB (tw @mQ (tw @mX (tw @mZ (tw @mY @e2)))))) ?_;(repeat(refine Pn.mk ?_;intro N hN))))
    refine⟨_,kq.x (by rw[aC]at t3;exact t3) _,?_⟩
    refine hN _ _ ?_
    clear hN N
    (try((repeat(revert hN;revert N;apply Pn.out));refine wk (tw @mA (tw @mB (tw @mQ (tw @mX (tw @mZ (tw @mY @e2)))))) ?_;(repeat(refine Pn.mk ?_;intro N hN))))
    refine⟨_,aj.x (by rw[aC]at q3;exact q3) (by rw[<-aC];exact Fo Uu (vD _ _)),?_⟩
    refine hN _ _ ?_
    clear hN N
    (try((repeat(revert hN;revert N;apply Pn.out));refine wk (tw @mA (tw @mB (tw @mQ (tw @mX (tw @mZ (tw @mY @e2)))))) ?_;(repeat(refine Pn.mk ?_;intro N hN))))
    refine⟨_,kq.x (by rw[aC]at t2;exact t2) _,?_⟩
    refine hN _ _ ?_
    clear hN N
    (try((repeat(revert hN;revert N;apply Pn.out));refine wk (tw @mA (tw @mB (tw @mQ (tw @mX (tw @mZ (tw @mY @e2)))))) ?_;(repeat(refine Pn.mk ?_;intro N hN))))
    refine⟨_,aj.x (by rw[aC]at q2;exact q2) (by rw[<-aC];exact Fo UG (vD _ _)),?_⟩
    refine hN _ _ ?_
    clear hN N
    (try((repeat(revert hN;revert N;apply Pn.out));refine wk (tw @mA (tw @mB (tw @mQ (tw @mX (tw @mZ (tw @mY @e2)))))) ?_;(repeat(refine Pn.mk ?_;intro N hN))))
    have OX:=Mq s
    refine .inr (aJ _ _ _ _ _ (fun r' σ5 hq=>?_) (He _ s _ 1 (by omega) sm.s.t (by omega) _ (fun i hi=>by have:=bX i hi;(try dsimp only);omega) I3.1 UF))
    obtain⟨rfl,hM⟩:=hq
    obtain⟨g5,x5⟩:=σ5
    (try dsimp only at hM)
    have nM:=hM.1
    (try dsimp only at nM)
    have pA:=(hM.2 ⟨8000000,n0⟩ (by(try dsimp only);omega) (I3.not (by(try dsimp only);omega))).trans mA
    have pB:=(hM.2 ⟨8000001,n0⟩ (by(try dsimp only);omega) (I3.not (by(try dsimp only);omega))).trans mB
    have pQ:=(hM.2 ⟨8000002,n0⟩ (by(try dsimp only);omega) (I3.not (by(try dsimp only);omega))).trans mQ
    have pY:=(hM.2 ⟨8014002,x3⟩ (by(try dsimp only);omega) (I3.not (by(try dsimp only);omega))).trans mY
    have pZ:=(hM.2 ⟨8013002,x2⟩ (by(try dsimp only);omega) (I3.not (by(try dsimp only);omega))).trans mZ
    have hI4:=Uu.frame (g':=g5) fun i hi=>hM.2 i (by have:=bI i hi;(try dsimp only);omega) (I3.not (by have:=bI i hi;omega))
    have hY4:=UG.frame (g':=g5) fun i hi=>hM.2 i (by have:=bY i hi;(try dsimp only);omega) (I3.not (by have:=bY i hi;omega))
    have hZ4:=hZ.frame (g':=g5) fun i hi=>hM.2 i (by have:=bZ i hi;(try dsimp only);omega) (I3.not (by have:=bZ i hi;omega))
    clear hM UF Uu UG hZ mA mB mQ mX mY mZ qE
    refine hN _ _ ?_
    clear hN N
    (try((repeat(revert hN;revert N;apply Pn.out));refine wk (tw @pA (tw @pB (tw @pQ (tw @pY @pZ)))) ?_;(repeat(refine Pn.mk ?_;intro N hN))))
    refine .inr (aJ _ _ _ _ _ (fun r' σ6 hq=>?_) (tN _ r _ (1+Ax s) (by omega) (by omega) _ (fun i hi=>by have:=bI i hi;(try dsimp only);omega) hI4))
    obtain⟨rfl,hM⟩:=hq
    obtain⟨g6,x6⟩:=σ6
    (try dsimp only at hM)
    have nO:=hM.1
    (try dsimp only at nO)
    have oA:=(hM.2 ⟨8000000,n0⟩ (by(try dsimp only);omega) (Nh.not (by(try dsimp only);omega))).trans pA
    have oB:=(hM.2 ⟨8000001,n0⟩ (by(try dsimp only);omega) (Nh.not (by(try dsimp only);omega))).trans pB
    have oQ:=(hM.2 ⟨8000002,n0⟩ (by(try dsimp only);omega) (Nh.not (by(try dsimp only);omega))).trans pQ
    have oY:=(hM.2 ⟨8014002,x3⟩ (by(try dsimp only);omega) (Nh.not (by(try dsimp only);omega))).trans pY
    have hY5:=hY4.frame (g':=g6) fun i hi=>hM.2 i (by have:=bY i hi;(try dsimp only);omega) (Nh.not (by have:=bY i hi;omega))
    have hZ5:=hZ4.frame (g':=g6) fun i hi=>hM.2 i (by have:=bZ i hi;(try dsimp only);omega) (Nh.not (by have:=bZ i hi;omega))
    clear hM hI4 hY4 hZ4 pA pB pQ pY pZ
    refine hN _ _ ?_
    clear hN N
    (try((repeat(revert hN;revert N;apply Pn.out));refine wk (tw @oA (tw @oB (tw @oQ @oY))) ?_;(repeat(refine Pn.mk ?_;intro N hN))))
    refine .inr (aJ _ _ _ _ _ (fun r' σ7 hq=>?_) (tN _ a _ (1+Ax s+3*r.ae.length) (by omega) (by omega) _ (fun i hi=>by have:=bY i hi;(try dsimp only);omega) hY5))
    obtain⟨rfl,hM⟩:=hq
    obtain⟨g7,x7⟩:=σ7
    (try dsimp only at hM)
    have nN:=hM.1
    (try dsimp only at nN)
    have rA:=(hM.2 ⟨8000000,n0⟩ (by(try dsimp only);omega) (Qk.not (by(try dsimp only);omega))).trans oA
    have rB:=(hM.2 ⟨8000001,n0⟩ (by(try dsimp only);omega) (Qk.not (by(try dsimp only);omega))).trans oB
    have rQ:=(hM.2 ⟨8000002,n0⟩ (by(try dsimp only);omega) (Qk.not (by(try dsimp only);omega))).trans oQ
    have UH:=hZ5.frame (g':=g7) fun i hi=>hM.2 i (by have:=bZ i hi;(try dsimp only);omega) (Qk.not (by have:=bZ i hi;omega))
    clear hM hY5 hZ5 oA oB oQ oY
    obtain⟨wv5,qE,OU⟩:=UH.fz fun x g=>by simp[aa,ai,aq,aI]
    have e3:decide (1+(Ax s:Int)+3*(r.ae.length:Int)+3*(a.ae.length:Int)<0)=false:=decide_eq_false (by omega)
    refine hN _ _ ?_
    clear hN N
    (try((repeat(revert hN;revert N;apply Pn.out));refine wk (tw @rA (tw @rB (tw @rQ @e3))) ?_;(repeat(refine Pn.mk ?_;intro N hN))))
    refine .inl ⟨_,aj.x (tr OU hw) (xQ qE (hw.fz _)),?_⟩
    refine hN _ _ ?_
    clear hN N
    (try((repeat(revert hN;revert N;apply Pn.out));refine wk (tw @rA (tw @rB (tw @rQ (tw @e2 @e3)))) ?_;(repeat(refine Pn.mk ?_;intro N hN))))
    refine .inr (aJ _ _ _ _ _ (fun r' σ8 hq=>?_) (Et 1 (by omega) (by omega) _ (fun i hi=>by have:=bZ i hi;(try dsimp only);omega) UH))
    obtain⟨rfl,hM,hZ7⟩:=hq
    obtain⟨g8,x8⟩:=σ8
    (try dsimp only at hM hZ7)
    have sA:=(hM.2 ⟨8000000,n0⟩ (by(try dsimp only);omega) (Q6.not (by(try dsimp only);omega))).trans rA
    have sB:=(hM.2 ⟨8000001,n0⟩ (by(try dsimp only);omega) (Q6.not (by(try dsimp only);omega))).trans rB
    have sQ:=(hM.2 ⟨8000002,n0⟩ (by(try dsimp only);omega) (Q6.not (by(try dsimp only);omega))).trans rQ
    clear hM UH rA rB rQ qE OU
    obtain⟨wv6,qE,OU⟩:=hZ7.fz fun x g=>by simp[aa,ai,aq,aI]
    have e4:decide (1+3*(L.length:Int)<0)=false:=decide_eq_false (by omega)
    have e5:decide (1+3*(L.length:Int)=1+3*(L.length:Int))=true:=decide_eq_true rfl
    refine hN _ _ ?_
    clear hN N
    (try((repeat(revert hN;revert N;apply Pn.out));refine wk (tw @sA (tw @sB @sQ)) ?_;(repeat(refine Pn.mk ?_;intro N hN))))
    refine .inl ⟨_,aj.x (wV 1 L.length (by omega) (by omega) OU) (xQ qE (aI _ _ _ _)),?_⟩
    refine hN _ _ ?_
    clear hN N
    (try((repeat(revert hN;revert N;apply Pn.out));refine wk (tw @sA (tw @sB (tw @sQ (tw @e4 @e5)))) ?_;(repeat(refine Pn.mk ?_;intro N hN))))
    refine⟨_,kq.x (by rw[au]at t1;exact t1) _,?_⟩
    refine hN _ _ ?_
    clear hN N
    (try((repeat(revert hN;revert N;apply Pn.out));refine wk (tw @sA (tw @sB (tw @sQ (tw @e4 @e5)))) ?_;(repeat(refine Pn.mk ?_;intro N hN))))
    refine⟨_,kq.x (by rw[aC]at t3;exact t3) _,?_⟩
    refine hN _ _ ?_
    clear hN N
    (try((repeat(revert hN;revert N;apply Pn.out));refine wk (tw @sA (tw @sB (tw @sQ (tw @e4 @e5)))) ?_;(repeat(refine Pn.mk ?_;intro N hN))))
    refine⟨_,kq.x (by rw[aC]at t2;exact t2) _,?_⟩
    refine hN _ _ ?_
    clear hN N
    (try((repeat(revert hN;revert N;apply Pn.out));refine wk (tw @sA (tw @sB (tw @sQ (tw @e4 @e5)))) ?_;(repeat(refine Pn.mk ?_;intro N hN))))
    refine⟨_,aj.x (by have h:=r2.s Hn;rw[au,aC,aC]at h;exact h) (Q3 (by rw[<-au];exact Fv _ _) (by rw[<-aC];exact vD _ _) (by rw[<-aC];exact vD _ _)),?_⟩
    refine hN _ _ ?_
    clear hN N
    (try((repeat(revert hN;revert N;apply Pn.out));refine wk @e2 ?_;(repeat(refine Pn.mk ?_;intro N hN))))
    refine .inl ⟨_,aj.x (tr CJ hw) (xQ (CJ.fz _) (hw.fz _)),?_⟩
    refine hN _ _ ?_
    clear hN N
    (try((repeat(revert hN;revert N;apply Pn.out));refine wk @e2 ?_;(repeat(refine Pn.mk ?_;intro N hN))))
    refine .inl ⟨_,aj.x (wV 1 L.length (by omega) (by omega) OU) (xQ qE (aI _ _ _ _)),?_⟩
    refine hN _ _ ?_
    clear hN N
    (try((repeat(revert hN;revert N;apply Pn.out));refine wk (tw @e4 @e5) ?_;(repeat(refine Pn.mk ?_;intro N hN))))
    exact aU (b:=true) (.inl rfl) (sd @Nat.zero_add) rfl
   ·rw[iC hh]at h3
    rw[au]at h1
    rw[aC]at h2 h3
    (repeat(first|((repeat(revert hN;revert N;apply Pn.out));refine wk (tw @au.eq_1 (tw @aC.eq_1 (tw @j9 @Ai))) ?_;(repeat(refine Pn.mk ?_;intro N hN)))|((try apply Or.inl);refine⟨_,aj.x (h1) (sd (tw @au.eq_1 (tw @aC.eq_1 (tw @j9 @Ai)))),?_⟩;refine hN _ _ ?_;clear hN N)|((try apply Or.inl);refine⟨_,aj.x (h2) (sd (tw @au.eq_1 (tw @aC.eq_1 (tw @j9 @Ai)))),?_⟩;refine hN _ _ ?_;clear hN N)|((try apply Or.inl);refine⟨_,aj.x (h3) (sd (tw @au.eq_1 (tw @aC.eq_1 (tw @j9 @Ai)))),?_⟩;refine hN _ _ ?_;clear hN N)))
    exact aU (b:=true) (.inl rfl) (sd @Nat.zero_add) rfl
  ·rw[iC hg]at h2
   rw[au]at h1
   rw[aC]at h2
   (repeat(first|((repeat(revert hN;revert N;apply Pn.out));refine wk (tw @au.eq_1 (tw @aC.eq_1 @j9)) ?_;(repeat(refine Pn.mk ?_;intro N hN)))|((try apply Or.inl);refine⟨_,aj.x (h1) (sd (tw @au.eq_1 (tw @aC.eq_1 @j9))),?_⟩;refine hN _ _ ?_;clear hN N)|((try apply Or.inl);refine⟨_,aj.x (h2) (sd (tw @au.eq_1 (tw @aC.eq_1 @j9))),?_⟩;refine hN _ _ ?_;clear hN N)))
   exact aU (b:=true) (.inl rfl) (sd @Nat.zero_add) rfl
 ·rw[iC hf]at h1
  rw[au]at h1
  (repeat(first|((repeat(revert hN;revert N;apply Pn.out));refine wk (tw @au.eq_1 @aC.eq_1) ?_;(repeat(refine Pn.mk ?_;intro N hN)))|((try apply Or.inl);refine⟨_,aj.x (h1) (sd (tw @au.eq_1 @aC.eq_1)),?_⟩;refine hN _ _ ?_;clear hN N)))
  exact aU (b:=true) (.inl rfl) (sd @Nat.zero_add) rfl
end Go.Proofs.YtgoljkjaameagaaGreat.V

namespace Go.Proofs.YtgoljkjaameagaaGreat
open Go.ChangeShapes Go.WideShapes Go.ChangeAt Go.RowKit Go.Deep
section
variable {H:Type} {enc:TypeId×Value->H} {P:Program} {w:World}
theorem ns.Sb {α:Type} {rep:World->List Nat->List Value->α->Prop} {sz:Nat} {w:World} {b o len cap:Nat} (pb:Nat->List Value) (fs:Nat->List Nat) (ds:Nat->α) (hc:len<=cap) (hm:cap<=maxLen)
  (hl:∀i,i<len->(pb i).length=sz) (hr:∀i,i<len->rep w (fs i) (pb i) (ds i)) (FF:∀i,i<len->∀j u,(pb i)[j]? =some u->w.cell? ⟨b,o+(i*sz+j),none⟩=some u):
  ns rep sz w ([b]++((List.range len).map fs).flatten) (.slice (some ⟨b,o,none⟩) len cap) ((List.range len).map ds):=by
 refine⟨(List.range len).map pb,(List.range len).map fs,[b],rfl,⟨some ⟨b,o,none⟩,cap,by simp,by simpa using hc,hm,.inr ⟨b,o,rfl,rfl,fun j u hj=>?_⟩⟩,by simp,by simp,fun i cs f d h1 h2 h3=>?_⟩
 ·have hlen:∀cs∈(List.range len).map pb,cs.length=sz:=fun cs dx=>by
   obtain⟨i,hi,rfl⟩:=List.mem_map.1 dx
   exact hl i (List.mem_range.1 hi)
  have im:=(List.getElem?_eq_some_iff.1 hj).1
  have LR:((List.range len).map pb).flatten.length=len*sz:=by
   rw[List.length_flatten,List.map_map]
   have:∀(l:List Nat),(∀i∈l,i<len)->(l.map (List.length∘pb)).sum=l.length*sz:=by
    intro l
    induction l with
    |nil=>intro _;simp
    |cons a l ih=>intro h;rw[List.map_cons,List.sum_cons,ih fun i hi=>h i (List.mem_cons_of_mem _ hi)];simp only[Function.comp,hl a (h a (by simp)),List.length_cons,Nat.add_mul];omega
   rw[this _ fun i hi=>List.mem_range.1 hi,List.length_range]
  rw[LR]at im
  have Ec:0<sz:=by
   rcases Nat.eq_zero_or_pos sz with h|h
   ·subst h;simp at im
   ·exact h
  have hi:j / sz<len:=(Nat.div_lt_iff_lt_mul Ec).2 im
  have HY:j % sz<sz:=Nat.mod_lt _ Ec
  have LV:j=(j / sz)*sz+j % sz:=by rw[Nat.mul_comm];exact(Nat.div_add_mod j sz).symm
  rw[LV,uu hlen (i:=j / sz) (cs:=pb (j / sz)) (by simp[hi]) HY]at hj
  rw[LV]
  have:=FF (j / sz) hi (j % sz) u hj
  rw[<-LV]at this ⊢
  exact this
 ·have hi:i<len:=by
   have:=(List.getElem?_eq_some_iff.1 h1).1
   simpa using this
  simp[hi]at h1 h2 h3
  subst h1 h2 h3
  exact⟨hr i hi,hl i hi⟩
theorem kr (b o k:Nat):(⟨b,o,none⟩:Addr).add k=⟨b,o+k,none⟩:=by
 unfold Addr.add;split
 ·rename_i h;subst h;rfl
 ·rfl
theorem qm {α:Type} {rep:World->List Nat->List Value->α->Prop} {Q:α->Prop} {t e:TypeId} {sz fuel:Nat} {cs:List Value} {x:DataW H×List MemPlace} (ht:P.underlying t=some (.slice e)) (hC:P.cellsOf e=sz) (Ec:0<sz)
  (h:DataW.trod enc P w 0 (fun _=>true) true fuel t cs=some x) (hel:∀n qz y,qz.length=sz->DataW.trod enc P w 0 (fun _=>true) true n e qz=some y->∃f d,fG f 0 w.heap.size/\rep w f qz d/\Q d):
  ∃A n c f xs,cs=[.slice A n c]/\fG f 0 w.heap.size/\ns rep sz w f (.slice A n c) xs/\∀d∈xs,Q d:=by
 rcases open_slice ht h with⟨rfl,_⟩|⟨a,len,cap,m,n,D,Pl,rfl,_,hl,hm,OV,_,hi⟩
 ·exact⟨none,0,0,[],[],rfl,fG.nil _ _,ns.nil _ _ _,fun d h=>by cases h⟩
 rw[hC]at hi
 simp only[if_true]at OV
 by_cases h0:len=0
 ·subst h0
  exact⟨some a,0,cap,[],[],rfl,fG.nil _ _,⟨[],[],[],rfl,⟨some a,cap,rfl,Nat.zero_le _,hm,.inl ⟨rfl,rfl⟩⟩,rfl,rfl,fun i cs f d hc=>by simp at hc⟩,fun d h=>by cases h⟩
 obtain⟨b,o,sp⟩:=a
 have cell0:∃v,w.cell? ⟨b,o,sp⟩=some v:=by
  obtain⟨qz,hc,_⟩:=hi 0 (by omega)
  obtain⟨_,nz,FF⟩:=World.cells?_some hc
  refine⟨qz[0]'(by omega),?_⟩
  have:=FF 0 Ec
  rw[List.getElem?_eq_getElem (by omega)]at this
  simpa[Addr.add]using this
 obtain⟨v0,td⟩:=cell0
 have hb:b<w.heap.size:=World.block_lt_of_cell? w _ td
 have O8:sp=none:=by
  unfold World.cell? at td
  split at td
  ·split at td
   ·cases td
   ·rename_i h;simpa using h
  ·cases td
 subst O8
 have key:∀i,i<len->∃qz f d,qz.length=sz/\fG f 0 w.heap.size/\rep w f qz d/\Q d/\∀j u,qz[j]? =some u->w.cell? ⟨b,o+(i*sz+j),none⟩=some u:=fun i lV=>by
  obtain⟨qz,hc,htr⟩:=hi i (by omega)
  obtain⟨_,nz,FF⟩:=World.cells?_some hc
  obtain⟨f,d,h1,h2,h3⟩:=hel n qz _ nz htr
  refine⟨qz,f,d,nz,h1,h2,h3,fun j u hj=>?_⟩
  have im:=(List.getElem?_eq_some_iff.1 hj).1
  have:=FF j (by omega)
  rw[hj]at this
  rw[<-this,Go.Deep.add_add,kr]
 have:Nonempty α:=by
  obtain⟨_,_,d,_⟩:=key 0 (by omega)
  exact⟨d⟩
 let cf:Nat->List Value:=fun i=>if hi:i<len then(key i hi).choose else[]
 let ff:Nat->List Nat:=fun i=>if hi:i<len then(key i hi).choose_spec.choose else[]
 let df:Nat->α:=fun i=>if hi:i<len then(key i hi).choose_spec.choose_spec.choose else Classical.choice this
 have dE:∀i,i<len->(cf i).length=sz/\fG (ff i) 0 w.heap.size/\rep w (ff i) (cf i) (df i)/\Q (df i)/\∀j u,(cf i)[j]? =some u->w.cell? ⟨b,o+(i*sz+j),none⟩=some u:=fun i hi=>by
  have:=(key i hi).choose_spec.choose_spec.choose_spec
  simp only[cf,ff,df,dif_pos hi]
  exact this
 refine⟨some ⟨b,o,none⟩,len,cap,_,(List.range len).map df,rfl,?_,ns.Sb cf ff df hl hm (fun i hi=>(dE i hi).1) (fun i hi=>(dE i hi).2.2.1) (fun i hi=>(dE i hi).2.2.2.2),fun d hd=>?_⟩
 ·intro x hx
  rcases List.mem_append.1 hx with hx|hx
  ·simp at hx;subst hx;exact⟨Nat.zero_le _,hb⟩
  ·obtain⟨l,LX,QC⟩:=List.mem_flatten.1 hx
   obtain⟨i,hi,rfl⟩:=List.mem_map.1 LX
   exact(dE i (List.mem_range.1 hi)).2.1 x QC
 ·obtain⟨i,hi,rfl⟩:=List.mem_map.1 hd
  exact(dE i (List.mem_range.1 hi)).2.2.2.1
end
section
variable {H:Type} {enc:TypeId×Value->H} {w:World} {fuel:Nat} {cs:List Value} {x:DataW H×List MemPlace}
abbrev TT (enc:TypeId×Value->H) (w:World) (fuel t:Nat) (cs:List Value) (x:DataW H×List MemPlace):Prop:=DataW.trod enc Tryz.prog w 0 (fun _=>true) true fuel t cs=some x
theorem Pr (h:TT enc w fuel 31 cs x):∃A n c f xs,cs=[.slice A n c]/\fG f 0 w.heap.size/\wh w f (.slice A n c) xs:=by
 obtain⟨A,n,c,f,xs,h1,h2,h3,_⟩:=qm (rep:=Fk) (Q:=fun _=>True) Tryz.underlying31 (sz:=1) (by kernel_rfl) (by omega) h fun n qz y hl hy=>by
  obtain⟨b,rfl,_⟩:=DataW.trod_int Tryz.underlying2 hy
  exact⟨[],b,fG.nil _ _,⟨rfl,rfl⟩,trivial⟩
 exact⟨A,n,c,f,xs,h1,h2,h3⟩
theorem nF {t:TypeId} {fs:Array Field} (ht:Tryz.prog.underlying t=some (.struct fs)) (h:TT enc w fuel t cs x):cs.length=Tryz.prog.cellsOf t/\∃n,∀(i:Nat) (f:Field),fs[i]? =some f->∃y,TT enc w n f.type ((cs.drop f.offset).take (Tryz.prog.cellsOf f.type)) y:=by
 obtain⟨xs,n,_,_,hl,QC,hf⟩:=DataW.trod_struct ht h
 refine⟨hl,n,fun i f hi=>?_⟩
 have lV:i<xs.length:=by rw[QC];exact(Array.getElem?_eq_some_iff.1 hi).1
 exact⟨xs[i],(hf i f hi).trans (List.getElem?_eq_getElem lV)⟩
theorem R7 {l:List Value} (h:l.length=2):∃a b,l=[a,b]:=by
 match l,h with
 |[a,b],_=>exact⟨a,b,rfl⟩
theorem VG {l:List Value} (h:l.length=3):∃a b c,l=[a,b,c]:=by
 match l,h with
 |[a,b,c],_=>exact⟨a,b,c,rfl⟩
theorem VF {l:List Value} (h:l.length=1):∃a,l=[a]:=by
 match l,h with
 |[a],_=>exact⟨a,rfl⟩
theorem VH {l:List Value} (h:l.length=4):∃a b c d,l=[a,b,c,d]:=by
 match l,h with
 |[a,b,c,d],_=>exact⟨a,b,c,d,rfl⟩
theorem Mw (h:TT enc w fuel 22 cs x):∃A n c f xs,cs=[.slice A n c]/\fG f 0 w.heap.size/\rV w f (.slice A n c) xs/\∀d∈xs,d.aE.size<=9223372036854775807:=by
 exact qm (rep:=Ih) (Q:=fun d=>d.aE.size<=9223372036854775807) Tryz.underlying22 (sz:=2) (by kernel_rfl) (by omega) h fun n qz y hl hy=>by
  obtain⟨_,m,hf⟩:=nF Tryz.underlying247 hy
  obtain⟨a,b,rfl⟩:=R7 hl
  ·skip
   obtain⟨y0,h0⟩:=hf 0 _ rfl
   obtain⟨y1,h1⟩:=hf 1 _ rfl
   rw[show Tryz.prog.cellsOf _=1 from by kernel_rfl]at h0 h1
   obtain⟨p,e0,_,ws⟩:=DataW.trod_string Tryz.underlying9 h0
   obtain⟨q,e1,_⟩:=DataW.trod_int Tryz.underlying2 h1
   simp at e0 e1
   subst e0 e1
   exact⟨[],⟨p,q⟩,fG.nil _ _,⟨rfl,rfl⟩,by simpa[maxLen]using ws⟩
theorem Mx (h:TT enc w fuel 23 cs x):∃A n c f xs,cs=[.slice A n c]/\fG f 0 w.heap.size/\rW w f (.slice A n c) xs/\∀d∈xs,d.aE.size<=9223372036854775807:=by
 exact qm (rep:=Ii) (Q:=fun d=>d.aE.size<=9223372036854775807) Tryz.underlying23 (sz:=2) (by kernel_rfl) (by omega) h fun n qz y hl hy=>by
  obtain⟨_,m,hf⟩:=nF Tryz.underlying250 hy
  obtain⟨a,b,rfl⟩:=R7 hl
  ·skip
   obtain⟨y0,h0⟩:=hf 0 _ rfl
   obtain⟨y1,h1⟩:=hf 1 _ rfl
   rw[show Tryz.prog.cellsOf _=1 from by kernel_rfl]at h0 h1
   obtain⟨p,e0,_,ws⟩:=DataW.trod_string Tryz.underlying9 h0
   obtain⟨A1,n1,c1,f1,Sw,e1,k1,s1⟩:=Pr h1
   simp at e0 e1
   subst e0 e1
   exact⟨_,⟨p,Sw⟩,k1,⟨_,f1,rfl,rfl,s1⟩,by simpa[maxLen]using ws⟩
theorem Hi (h:TT enc w fuel 26 cs x):∃A n c f xs,cs=[.slice A n c]/\fG f 0 w.heap.size/\iE w f (.slice A n c) xs:=by
 obtain⟨A,n,c,f,xs,h1,h2,h3,_⟩:=qm (rep:=Bt) (Q:=fun _=>True) Tryz.underlying26 (sz:=3) (by kernel_rfl) (by omega) h fun n qz y hl hy=>by
  obtain⟨_,m,hf⟩:=nF Tryz.underlying208 hy
  obtain⟨a,b,c,rfl⟩:=VG hl
  ·skip
   obtain⟨y0,h0⟩:=hf 0 _ rfl
   obtain⟨y1,h1⟩:=hf 1 _ rfl
   rw[show Tryz.prog.cellsOf _=2 from by kernel_rfl]at h0
   rw[show Tryz.prog.cellsOf _=1 from by kernel_rfl]at h1
   obtain⟨_,m2,K9⟩:=nF Tryz.underlying163 h0
   obtain⟨z0,g0⟩:=K9 0 _ rfl
   obtain⟨z1,g1⟩:=K9 1 _ rfl
   rw[show Tryz.prog.cellsOf _=1 from by kernel_rfl]at g0 g1
   obtain⟨px,e0,_⟩:=DataW.trod_int Tryz.underlying2 g0
   obtain⟨py,e1,_⟩:=DataW.trod_int Tryz.underlying2 g1
   obtain⟨ti,e2,_⟩:=DataW.trod_int Tryz.underlying2 h1
   simp at e0 e1 e2
   subst e0 e1 e2
   exact⟨[],⟨⟨px,py⟩,ti⟩,fG.nil _ _,⟨rfl,rfl⟩,trivial⟩
 exact⟨A,n,c,f,xs,h1,h2,h3⟩
theorem rG (h:TT enc w fuel 28 cs x):∃A n c f,∃d:dM,cs=[.slice A n c]/\fG f 0 w.heap.size/\iE w f (.slice A n c) d.ae:=by
 obtain⟨hl,m,hf⟩:=nF Tryz.underlying28 h
 rw[show Tryz.prog.cellsOf _=1 from by kernel_rfl]at hl
 obtain⟨a,rfl⟩:=VF hl
 ·skip
  obtain⟨y0,h0⟩:=hf 0 _ rfl
  rw[show Tryz.prog.cellsOf _=1 from by kernel_rfl]at h0
  obtain⟨A1,n1,c1,f1,Sw,e1,k1,s1⟩:=Hi h0
  simp at e1
  subst e1
  exact⟨A1,n1,c1,f1,⟨Sw⟩,rfl,k1,s1⟩
theorem JZ (h:TT enc w fuel 30 cs x):∃A0 n0 c0 f0 A1 n1 c1 f1 A2 n2 c2 f2,∃d:ax,cs=[.slice A0 n0 c0,.slice A1 n1 c1,.slice A2 n2 c2,.int .i64 d.aA]/\fG f0 0 w.heap.size/\rV w f0 (.slice A0 n0 c0) d.aD.ay/\fG f1 0 w.heap.size/\rW w f1 (.slice A1 n1 c1) d.aD.ae/\fG f2 0 w.heap.size/\iE w f2 (.slice A2 n2 c2) d.aX.ae/\(∀g∈d.aD.ay,g.aE.size<=9223372036854775807)/\∀t∈d.aD.ae,t.aE.size<=9223372036854775807:=by
 obtain⟨hl,m,hf⟩:=nF Tryz.underlying30 h
 rw[show Tryz.prog.cellsOf _=4 from by kernel_rfl]at hl
 obtain⟨a,b,c,d,rfl⟩:=VH hl
 ·skip
  obtain⟨y0,h0⟩:=hf 0 _ rfl
  obtain⟨y1,h1⟩:=hf 1 _ rfl
  obtain⟨y2,h2⟩:=hf 2 _ rfl
  rw[show Tryz.prog.cellsOf _=2 from by kernel_rfl]at h0
  rw[show Tryz.prog.cellsOf _=1 from by kernel_rfl]at h1 h2
  obtain⟨_,m2,K9⟩:=nF Tryz.underlying25 h0
  obtain⟨z0,g0⟩:=K9 0 _ rfl
  obtain⟨z1,g1⟩:=K9 1 _ rfl
  rw[show Tryz.prog.cellsOf _=1 from by kernel_rfl]at g0 g1
  obtain⟨A0,n0,c0,f0,xs0,e0,k0,s0,o0⟩:=Mw g0
  obtain⟨A1,n1,c1,f1,Sw,e1,k1,s1,o1⟩:=Mx g1
  obtain⟨A2,n2,c2,f2,d2,e2,k2,s2⟩:=rG h1
  obtain⟨t,e3,_⟩:=DataW.trod_int Tryz.underlying2 h2
  simp at e0 e1 e2 e3
  subst e0 e1 e2 e3
  exact⟨A0,n0,c0,f0,A1,n1,c1,f1,A2,n2,c2,f2,⟨⟨xs0,Sw⟩,d2,t⟩,rfl,k0,s0,k1,s1,k2,s2,o0,o1⟩
end
end Go.Proofs.YtgoljkjaameagaaGreat

namespace Go.Proofs.YtgoljkjaameagaaGreat
open Go.ChangeShapes Go.WideShapes Go.ChangeAt Go.RowKit V
theorem Sf:ownKnob Tryz.prog.godebug=none:=by kernel_rfl
theorem Em:laidOutB Tryz.prog=true:=by kernel_rfl
theorem MM (s:ax) (r a:dM) (hn:gF s.aD):aj Tryz.prog 8 [.agg (au s),.agg (aC r),.agg (aC a)] (.bool true):=
 Ml (fun s r a=>pJ s r.ae a.ae) (fun s r a hn hm _ _=>rT s r.ae a.ae hn hm.s.g hm.s.t) (fun s r a hn hm hr ha=>rS s r.ae a.ae hn hm hr ha) (fun s r a=>Ki) s r a hn
theorem EH (os:Os) (started:os.Started) (H:Type) (enc:TypeId×Value->H):
  ReturnsInHanded {} Tryz.checked os 8 .any (Rows.fnExactRestoreSequenceSpec.pre6 enc Tryz.prog Tryz.f8 Rows.fnExactRestoreSequenceRow.domain false) (Rows.fnExactRestoreSequenceSpec.post enc Tryz.prog Tryz.f8 false true false false):=by
 refine returnsInHanded_of_change (C:=Tryz.checked) Sf started (by kernel_rfl) Tryz.func8
  (ChangeSpec.witness6 (enc:=enc) (C:=Tryz.checked) false ⟨#[], #[.agg #[.slice none 0 0,.slice none 0 0,.slice none 0 0,.int .i64 0],.agg #[.slice none 0 0],.agg #[.slice none 0 0]],[]⟩ 8 (by kernel_rfl) (by kernel_rfl) (by kernel_rfl) (by kernel_rfl)) ?_
 intro W base args ds gs before NC hW hcnd _
 have so:∀(j:Nat) t v,Tryz.f8.params[j]? =some t->args[j]? =some v->Value.okWide Tryz.prog W .any base t v:=NC
 have hW':=hW
 obtain⟨p,q,hA0,hV,rfl,Df,mM⟩:=hW
 have hA:DataW.TrodAll enc Tryz.prog W 0 (fun _=>true) true Tryz.f8.params.toList args.toList ds p:=hA0
 rw[Tryz.params8]at hA so
 obtain⟨v0,vs0,d0,ds0,p0,q0,oe,rfl,rfl,h0,r0⟩:=trodAll_cons hA
 obtain⟨v1,vs1,d1,ds1,p1,q1,rfl,rfl,rfl,h1,r1⟩:=trodAll_cons r0
 obtain⟨v2,vs2,d2,ds2,p2,q2,rfl,rfl,rfl,h2,r2⟩:=trodAll_cons r1
 obtain⟨rfl,rfl,rfl⟩:=trodAll_nil r2
 obtain rfl:args= #[v0,v1,v2]:=by cases args;simp_all
 obtain⟨rfl,rfl⟩:=trodVars_none hV
 obtain⟨Qi,rfl,_⟩:=okWide_struct Tryz.underlying30 (so 0 30 v0 rfl rfl)
 obtain⟨T8,rfl,_⟩:=okWide_struct Tryz.underlying28 (so 1 28 v1 rfl rfl)
 obtain⟨T7,rfl,_⟩:=okWide_struct Tryz.underlying28 (so 2 28 v2 rfl rfl)
 have k0:=h0
 have k1:=h1
 have k2:=h2
 have lt0:∀x∈p0,x.block<W.heap.size:=by obtain⟨m,hm⟩:=k0;exact DataW.trod_lt m _ _ _ hm
 have QG:∀x∈p1,x.block<W.heap.size:=by obtain⟨m,hm⟩:=k1;exact DataW.trod_lt m _ _ _ hm
 have QH:∀x∈p2,x.block<W.heap.size:=by obtain⟨m,hm⟩:=k2;exact DataW.trod_lt m _ _ _ hm
 obtain⟨A0,n0,c0,f0,A1,n1,c1,f1,A2,n2,c2,f2,s,dx,w0,s0,w1,s1,w2,s2,o0,o1⟩:∃A0 n0 c0 f0 A1 n1 c1 f1 A2 n2 c2 f2,∃d:ax,(Value.agg Qi).cells.toList=[.slice A0 n0 c0,.slice A1 n1 c1,.slice A2 n2 c2,.int .i64 d.aA]/\fG f0 0 W.heap.size/\rV W f0 (.slice A0 n0 c0) d.aD.ay/\fG f1 0 W.heap.size/\rW W f1 (.slice A1 n1 c1) d.aD.ae/\fG f2 0 W.heap.size/\iE W f2 (.slice A2 n2 c2) d.aX.ae/\(∀g∈d.aD.ay,g.aE.size<=9223372036854775807)/\∀t∈d.aD.ae,t.aE.size<=9223372036854775807:=by
  obtain⟨fuel,hf⟩:=h0
  exact JZ hf
 obtain⟨A4,n4,c4,f4,rr,LP,w4,s4⟩:∃A n c f,∃d:dM,(Value.agg T8).cells.toList=[.slice A n c]/\fG f 0 W.heap.size/\iE W f (.slice A n c) d.ae:=by
  obtain⟨fuel,hf⟩:=h1
  exact rG hf
 obtain⟨A3,n3,c3,f3,a,Ri,w3,s3⟩:∃A n c f,∃d:dM,(Value.agg T7).cells.toList=[.slice A n c]/\fG f 0 W.heap.size/\iE W f (.slice A n c) d.ae:=by
  obtain⟨fuel,hf⟩:=h2
  exact rG hf
 obtain rfl:Qi= #[.slice A0 n0 c0,.slice A1 n1 c1,.slice A2 n2 c2,.int .i64 s.aA]:=by
  cases Qi;simp[Value.cells]at dx;subst dx;rfl
 obtain rfl:T7= #[.slice A3 n3 c3]:=by
  cases T7;simp[Value.cells]at Ri;subst Ri;rfl
 obtain rfl:T8= #[.slice A4 n4 c4]:=by
  cases T8;simp[Value.cells]at LP;subst LP;rfl
 clear hA0 NC
 have gQ:fu Tryz.prog W (fun b=>b<W.heap.size) (fun _=>none) [.agg (au s),.agg (aC rr),.agg (aC a)] #[.agg #[.slice A0 n0 c0,.slice A1 n1 c1,.slice A2 n2 c2,.int .i64 s.aA],.agg #[.slice A4 n4 c4],.agg #[.slice A3 n3 c3]]:=by
  have h:=lp (Du s0 (fun b hb=>(w0 b hb).2) s1 (fun b hb=>(w1 b hb).2) s2 (fun b hb=>(w2 b hb).2)) (lp (rP s4 (fun b hb=>(w4 b hb).2)) (lp (rP s3 (fun b hb=>(w3 b hb).2)) (⟨rfl,fun j b hj=>by cases j<;>cases hj⟩:fu Tryz.prog W (fun b=>b<W.heap.size) (fun _=>none) [] #[])))
  simpa using h
 have iA:=Pj mixed (MM s rr a ⟨o0,o1⟩) gQ
 clear s0 s1 s2 s3 s4 w0 w1 w2 w3 w4 gQ
 refine(iA.mono fun e W' ⟨he,bel⟩=>?_)
 subst he
 exact⟨_,rfl,_,_,_,[],_,[],hW',trodAll_mk1 (shut_bool Tryz.underlying4 _),(trodAll_cons_mk (Below.trod Em (by kernel_rfl) (of_decide_eq_true (by kernel_rfl)) k0 bel lt0) (trodAll_cons_mk (Below.trod Em (by kernel_rfl) (of_decide_eq_true (by kernel_rfl)) k1 bel QG) (trodAll_cons_mk (Below.trod Em (by kernel_rfl) (of_decide_eq_true (by kernel_rfl)) k2 bel QH) trodAll_mk0))),rfl,bel.frame _,fun h=>by cases h⟩
end Go.Proofs.YtgoljkjaameagaaGreat

namespace Go.Proofs.YtgoljkjaameagaaGreat
open Go.ChangeShapes Go.WideShapes Go.ChangeAt Go.RowKit
theorem rfN:Tryz.pinned.checked.prog.funcNamed Rows.fnExactRestoreSequenceRow.func=some 8:=by kernel_rfl
theorem rfJ:joinedFacts Tryz.pinned.checked.prog 8 Tryz.f8 Rows.fnExactRestoreSequenceSpec Rows.fnExactRestoreSequenceRow=true:=by
 unfold joinedFacts
 repeat(with_reducible refine Bool.and_eq_true_iff.2 ⟨?_,by as_aux_lemma=>kernel_rfl⟩)
 as_aux_lemma=>kernel_rfl
theorem rfI:Tryz.f8.isInstance Tryz.pinned.checked.prog Rows.fnExactRestoreSequenceRow.origin Rows.fnExactRestoreSequenceRow.targs:=of_decide_eq_true (by kernel_rfl)
theorem rfW:Tryz.f8.isWrapper Tryz.pinned.checked.prog Rows.fnExactRestoreSequenceRow.wrapper Rows.fnExactRestoreSequenceRow.mainSum:=by
 unfold Func.isWrapper;first|(rw[if_pos (by decide+kernel)];kernel_rfl)|(rw[if_neg (by decide+kernel)];exact⟨rfl,rfl⟩)
theorem Kj:Rows.fnExactRestoreSequenceRow.holds Tryz.pinned (OpenSpec.ofChange Rows.fnExactRestoreSequenceSpec):=
 OpenClaim.holds_of_wide 8 Tryz.f8 rfl rfl rfl rfl rfl rfl rfl ⟨rfl,rfl,rfl,rfl,rfl⟩ rfl rfl rfl rfl rfl rfN Tryz.func8 rfJ rfI rfW
  (fun os started H enc _=>EH os started H enc)
theorem fnExactRestoreSequence_proved:Rows.FnExactRestoreSequenceSaid:=Kj
end Go.Proofs.YtgoljkjaameagaaGreat
