/- Networks by matrices: the first shortest way. -/
import Derived.Test.YtphenfakmdknlaaGreatBrD
import Derived.Test.YtphenfakmdknlaaGreatBrB
import Derived.Test.YtphenfakmdknlaaGreatBrC
import Derived.RangeFuncNested
import Derived.RangeFuncBound
import Derived.RangeFuncCalls
import Derived.RangeFuncLeaves
import Derived.Shelf.Abstract
import Derived.Shelf.RegionOpen
import Derived.WalkKit
import Derived.OwnWalkIn
import Derived.TacticsInMore
import Derived.LoopNIn
import Derived.LoopIn
import Derived.BigQuiet
import Derived.RangeFuncBox
import Derived.RangeFuncWrites
import Derived.Maps.AppendAt
import Derived.OrdersIn
import Derived.Shelf.SlSortCmp.WholeK
import Derived.Shelf.SlSortCmp.NoneTotal
import Derived.Ground.SlsfProg
import Derived.Test.YtphenfakmdknlaaGreatProg
import Derived.Maps.RangeRun
import Derived.Test.YtphenfakmdknlaaGreatChecked
set_option linter.unusedVariables false
set_option linter.unusedSimpArgs false
set_option maxRecDepth 100000
set_option maxHeartbeats 16000000
namespace Go.Proofs.YtphenfakmdknlaaGreat.V
open Go.RowKit
attribute [local irreducible] dJ wpOps e8 Call
attribute [local go_sem] ax eB dY eJ eI cJ upd bD K.av bW AV.cells AV.cell rowOf rowsOf part ld rowAt bC bx cU de fj bf cC dv eO er cL dm cw cu cZ da bl aI bZ bj ck cj di dn dj bY bo cz dh bh au cq bJ fh aT bV bm aH cS aQ cV AV.undef aV bc db dd cY dc bQ du dw bG dq dp cm cr List.getD_cons_zero List.getD_cons_succ List.getD_nil List.all_cons List.all_nil Bool.and_true Bool.true_and Bool.and_self Bool.not_true Bool.not_false Option.map_some Option.map_none Option.bind_some Option.bind_none List.length_cons List.length_nil List.take_succ_cons List.take_zero List.take_nil List.drop_succ_cons List.drop_zero List.drop_nil List.head?_cons List.map_cons List.map_nil List.getElem?_cons_zero List.getElem?_cons_succ List.cons_append List.nil_append List.append_nil List.length_map List.set_cons_zero List.set_cons_succ Nat.reduceMul eq_self Int.toNat_natCast Int.natCast_nonneg and_self true_and and_true decide_true decide_false Bool.false_eq_true Nat.zero_add Nat.add_zero List.contains_cons List.contains_nil Bool.or_false Bool.false_or beq_self_eq_true Nat.reduceBEq ne_eq not_true_eq_false not_false_eq_true Id.mk.injEq false_and and_false Nat.reduceLT Int.reduceLE Int.reduceLT Int.reduceToNat Int.reduceNeg Int.reduceAdd Nat.le_refl List.length_append beq_true beq_false Bool.not_eq_eq_eq_not or_false false_or dG ab ae az aU bu aC aP aE aJ cD aX
theorem KX (cnt:Nat) (DQ:1<=cnt) (hn:cnt<=1048576) (c f:Nat->Nat->Int) (x y:Nat) (hx:x<cnt) (hy:y<cnt):
  kz Tryz.prog 326 [.dI (fo cnt c f),.int .i64 x,.int .i64 y] fun r=>(r=.cK/\∃S:Nat->Bool,S x=true/\S y=false/\∀u v,u<cnt->v<cnt->S u=true->S v=false->¬f u v<c u v)∨∃p:List Nat,r=.sl (p.map eN)/\tQ cnt c f x y p:=by
 refine kz.body eL rfl fun hl n0=>?_
 clear hl
 have lM:=pU c cnt
 have jF:(0:Int)<=(cnt:Int):=ad
 have zN:(x:Int)<(cnt:Int):=ad
 have Qu:(y:Int)<(cnt:Int):=ad
 (try((repeat(revert hN;revert N;apply Pn.out));refine wk (tw @fo.eq_1 @lM) ?_;(repeat(refine Pn.mk ?_;intro N hN))))
 refine .inr (bd _ _ _ _ _ (fun r σ1 hq=>?_) (Hl cnt DQ hn (-1) ⟨326002000,n0+1+1⟩ _ (sd @Nat.zero_add) cE))
 obtain⟨o,rfl,ho,RY,O1,lQ⟩:=hq
 (try dsimp only at ho RY O1 lQ)
 refine hN _ _ ?_
 clear hN N
 have qb:=dW O1
 have qo:(cnt:Int)<=1048576:=ad
 have hct:o9<o9+cnt:=ad
 have km:List.replicate cnt [AV.int .i64 (-1)]=dP (fun _=>-1) cnt:=by
  refine List.ext_getElem? fun i=>?_
  by_cases h:i<cnt
  ·rw[dL h,List.getElem?_replicate,if_pos h];rfl
  ·rw[List.getElem?_eq_none (by simp;omega),List.getElem?_eq_none (by rw[dF];omega)]
 rw[km]at ho
 have yG:(dP (fun _=>-1) cnt).set x (aM (x:Int))=dP (fun v=>if v=x then(x:Int)else -1) cnt:=kc hx (if_pos rfl) fun v _ hv=>if_neg hv
 have hg0:=dL (f:=fun _=>-1) hx
 have tl0:=dF (fun _=>-1) cnt
 rw[aM]at yG hg0
 (try((repeat(revert hN;revert N;apply Pn.out));refine wk (tw @fo.eq_1 (tw @lM (tw @jF (tw @qo @qb)))) ?_;(repeat(refine Pn.mk ?_;intro N hN))))
 refine HP ?_
 simp only[go_sem, ↓reduceIte,Nat.reduceEqDiff,Nat.reduceAdd,Nat.reduceSub,Nat.reduceLeDiff,reduceCtorEq,hct]
 refine hN _ _ ?_
 clear hN N
 (try((repeat(revert hN;revert N;apply Pn.out));refine wk (tw @ho (tw @qb (tw @yG (tw @hg0 (tw @tl0 @zN))))) ?_;(repeat(refine Pn.mk ?_;intro N hN))))
 obtain⟨C,hC⟩:∃C:Id,C=⟨326003001,σ1.next+1⟩:=⟨_,rfl⟩
 have OZ:=dE (a:=o) (b:=C) (by rw[hC];(try dsimp only);omega)
 have hCv:C.bR=σ1.next+1:=by rw[hC]
 refine bp (fun m env st=>∃(par:Nat->Int) (Q:List Nat) (i:Nat),m=cnt-i/\Bq cnt c f x par Q i/\st.get o=some ⟨true,1,dP par cnt⟩/\st.get C=some ⟨true,o9+cnt,(Q.drop i).map eN⟩/\σ1.next+1<st.next) cnt ⟨_,[x],0,rfl,Bq.start hx,sd @qb,by rw[hC];simp only[go_sem, ↓reduceIte,Nat.reduceEqDiff,Nat.reduceAdd,Nat.reduceSub,Nat.reduceLeDiff,reduceCtorEq,qb];rfl,cE⟩ ?_
 rintro m env_b st_b ⟨par,Q,i,rfl,hB,bgo,bgC,bn⟩ bkp
 have b0:=bkp 0 (by kernel_rfl)
 have b1:=bkp 1 (by kernel_rfl)
 have b2:=bkp 2 (by kernel_rfl)
 have b7:=bkp 7 (by kernel_rfl)
 have b8:=bkp 8 (by kernel_rfl)
 have b9:=bkp 9 (by kernel_rfl)
 rw[<-hC]at b9
 simp only[go_sem, ↓reduceIte,Nat.reduceEqDiff,Nat.reduceAdd,Nat.reduceSub,Nat.reduceLeDiff,reduceCtorEq]at b0 b1 b2 b7 b8 b9
 clear bkp
 have hQn:=hB.len
 have rQ:=hB.ile
 have DL:((Q.drop i).map eN).length=Q.length-i:=by simp
 by_cases hi:i<Q.length
 ·have jo:(0:Int)<((Q.length-i:Nat):Int):=ad
  have p4:Q.drop i=Q[i]::Q.drop (i+1):=List.drop_eq_getElem_cons hi
  obtain⟨u,hu⟩:∃u,u=Q[i]:=⟨_,rfl⟩
  have hun:u<cnt:=by rw[hu];exact hB.lt _ (List.getElem_mem hi)
  rw[<-hu]at p4
  (try((repeat(revert hN;revert N;apply Pn.out));refine wk (tw @b0 (tw @b1 (tw @b2 (tw @b7 (tw @b8 (tw @b9 (tw @bgC (tw @DL @jo)))))))) ?_;(repeat(refine Pn.mk ?_;intro N hN))))
  refine HP ?_
  rw[p4,List.map_cons,show eN u=[.int .i64 (u:Int)]from rfl]at bgC
  simp only[go_sem, ↓reduceIte,Nat.reduceEqDiff,Nat.reduceAdd,Nat.reduceSub,Nat.reduceLeDiff,reduceCtorEq,b9,bgC]
  refine hN _ _ ?_
  clear hN N
  (try((repeat(revert hN;revert N;apply Pn.out));refine wk @b7 ?_;(repeat(refine Pn.mk ?_;intro N hN))))
  refine bp (fun m env st=>∃(v:Nat) (par':Nat->Int) (Q':List Nat),m=cnt-v/\v<=cnt/\env 36=.int .i64 (v:Int)/\Bq cnt c f x par' Q' i/\(∃h:i<Q'.length,Q'[i]=u)/\st.get o=some ⟨true,1,dP par' cnt⟩/\st.get C=some ⟨true,o9+cnt,(Q'.drop (i+1)).map eN⟩/\σ1.next+1<st.next/\∀w,w<v->f u w<c u w->0<=par' w) cnt ⟨0,par,Q,rfl,Nat.zero_le _,by(simp only[go_sem, ↓reduceIte,Nat.reduceEqDiff,Nat.reduceAdd,Nat.reduceSub,Nat.reduceLeDiff,reduceCtorEq])<;>rfl,hB,⟨hi,hu.symm⟩,sd (tw @OZ @bgo),sd @OZ,cE,fun w hw=>absurd hw (Nat.not_lt_zero w)⟩ ?_
  rintro m env_c st_c ⟨v,par',Q',rfl,hvn,c36,dH,⟨mK,CE⟩,ux,cgC,cn,dy⟩ ckp
  have c0:=ckp 0 (by kernel_rfl)
  have c1:=ckp 1 (by kernel_rfl)
  have c2:=ckp 2 (by kernel_rfl)
  have c7:=ckp 7 (by kernel_rfl)
  have c8:=ckp 8 (by kernel_rfl)
  have c9:=ckp 9 (by kernel_rfl)
  have jR:=ckp 10 (by kernel_rfl)
  have Lh:=ckp 35 (by kernel_rfl)
  simp only[go_sem, ↓reduceIte,Nat.reduceEqDiff,Nat.reduceAdd,Nat.reduceSub,Nat.reduceLeDiff,reduceCtorEq,b0,b1,b2,b7,b8,b9]at c0 c1 c2 c7 c8 c9 jR Lh
  clear ckp
  have tl:=dF par' cnt
  by_cases hv:(v:Int)<(cnt:Int)
  ·have A8:v<cnt:=ad
   have H3:=dL (f:=par') A8
   have lQ:=Lw cnt c f u v hun A8
   have hw:IntKind.i64.wrap ((v:Int)+1)=((v+1:Nat):Int):=aA ad
   rw[aM]at H3
   rw[fo]at lQ
   by_cases fW:par' v<0
   ·by_cases hr:f u v<c u v
    ·rw[decide_eq_true hr]at lQ
     have eX:(dP par' cnt).set v (aM (u:Int))=dP (fun w=>if w=v then(u:Int)else par' w) cnt:=kc A8 (if_pos rfl) fun w _ hw=>if_neg hw
     rw[aM]at eX
     have nQ:=dH.visit mK A8 fW (by rw[CE];exact hr)
     rw[CE]at nQ
     have hQ2:=nQ.len
     rw[List.length_append]at hQ2
     simp only[List.length_singleton]at hQ2
     have fq:o9+(Q'.drop (i+1)).length<o9+cnt:=by rw[List.length_drop];omega
     (repeat(first|((repeat(revert hN;revert N;apply Pn.out));refine wk (tw @fo.eq_1 (tw @c0 (tw @c7 (tw @c8 (tw @c9 (tw @jR (tw @c36 (tw @Lh (tw @hv (tw @ux (tw @H3 (tw @tl (tw @fW @eX))))))))))))) ?_;(repeat(refine Pn.mk ?_;intro N hN)))|((try apply Or.inl);refine⟨_,ak.x (lQ) (sd (tw @fo.eq_1 (tw @c0 (tw @c7 (tw @c8 (tw @c9 (tw @jR (tw @c36 (tw @Lh (tw @hv (tw @ux (tw @H3 (tw @tl (tw @fW @eX)))))))))))))),?_⟩;refine hN _ _ ?_;clear hN N)))
     refine HP ?_
     have hq:(Q'.drop (i+1)).map eN++[[.int .i64 (v:Int)]]=((Q'++[v]).drop (i+1)).map eN:=by rw[List.drop_append_of_le_length ad,List.map_append];rfl
     simp only[go_sem, ↓reduceIte,Nat.reduceEqDiff,Nat.reduceAdd,Nat.reduceSub,Nat.reduceLeDiff,reduceCtorEq,c9,cgC,fq,OZ,hq]
     refine hN _ _ ?_
     clear hN N
     (try((repeat(revert hN;revert N;apply Pn.out));refine wk (tw @c36 @hw) ?_;(repeat(refine Pn.mk ?_;intro N hN))))
     refine⟨_,?_,v+1,_,_,rfl,A8,sd @hw,nQ,⟨by rw[List.length_append];omega,by rw[List.getElem_append_left mK];exact CE⟩,sd @OZ,sd @OZ,cE,fun w hw A5=>?_⟩
     ·omega
     ·by_cases ua:w=v
      ·rw[if_pos ua];omega
      ·rw[if_neg ua];exact dy w ad A5
    ·rw[decide_eq_false hr]at lQ
     (repeat(first|((repeat(revert hN;revert N;apply Pn.out));refine wk (tw @fo.eq_1 (tw @c0 (tw @c7 (tw @c8 (tw @c9 (tw @jR (tw @c36 (tw @Lh (tw @hv (tw @ux (tw @H3 (tw @tl (tw @fW @hw))))))))))))) ?_;(repeat(refine Pn.mk ?_;intro N hN)))|((try apply Or.inl);refine⟨_,ak.x (lQ) (sd (tw @fo.eq_1 (tw @c0 (tw @c7 (tw @c8 (tw @c9 (tw @jR (tw @c36 (tw @Lh (tw @hv (tw @ux (tw @H3 (tw @tl (tw @fW @hw)))))))))))))),?_⟩;refine hN _ _ ?_;clear hN N)))
     refine⟨_,?_,v+1,par',Q',rfl,A8,sd @hw,dH,⟨mK,CE⟩,sd @ux,sd @cgC,cE,fun w hw A5=>?_⟩
     ·omega
     ·by_cases ua:w=v
      ·subst ua;exact absurd A5 hr
      ·exact dy w ad A5
   ·(try((repeat(revert hN;revert N;apply Pn.out));refine wk (tw @fo.eq_1 (tw @c0 (tw @c7 (tw @c8 (tw @c9 (tw @jR (tw @c36 (tw @Lh (tw @hv (tw @ux (tw @H3 (tw @tl (tw @fW @hw))))))))))))) ?_;(repeat(refine Pn.mk ?_;intro N hN))))
    refine⟨_,?_,v+1,par',Q',rfl,A8,sd @hw,dH,⟨mK,CE⟩,sd @ux,sd @cgC,cE,fun w hw A5=>?_⟩
    ·omega
    ·by_cases ua:w=v
     ·subst ua;omega
     ·exact dy w ad A5
  ·have hvc:v=cnt:=ad
   subst hvc
   (try((repeat(revert hN;revert N;apply Pn.out));refine wk (tw @c36 (tw @Lh @hv)) ?_;(repeat(refine Pn.mk ?_;intro N hN))))
   refine⟨_,?_,par',Q',i+1,rfl,dH.next mK fun w hw hr=>dy w hw (by rw[<-CE];exact hr),sd @ux,sd @cgC,cE⟩
   omega
 ·have hiQ:i=Q.length:=ad
  subst hiQ
  have jo:¬(0:Int)<((Q.length-Q.length:Nat):Int):=ad
  have RA:=dL (f:=par) hy
  have tl:=dF par cnt
  rw[aM]at RA
  by_cases fW:par y<0
  ·(try((repeat(revert hN;revert N;apply Pn.out));refine wk (tw @b0 (tw @b1 (tw @b2 (tw @b7 (tw @b8 (tw @b9 (tw @bgC (tw @DL (tw @jo (tw @bgo (tw @RA (tw @tl (tw @Qu @fW))))))))))))) ?_;(repeat(refine Pn.mk ?_;intro N hN))))
   exact⟨[.cK],sd @Nat.zero_add,.cK,sF _ _,.inl ⟨rfl,hB.cut hy fW⟩⟩
  ·(try((repeat(revert hN;revert N;apply Pn.out));refine wk (tw @b0 (tw @b1 (tw @b2 (tw @b7 (tw @b8 (tw @b9 (tw @bgC (tw @DL (tw @jo (tw @bgo (tw @RA (tw @tl (tw @Qu @fW))))))))))))) ?_;(repeat(refine Pn.mk ?_;intro N hN))))
   refine bp (fun m env st=>∃(k:Nat) (out:List Nat) (p:Id),m=Q.idxOf k/\env 13=.int .i64 (k:Int)/\env 12=.own p 0 out.length/\st.get p=some ⟨true,1,out.map eN⟩/\p.bR<st.next/\st_b.next<=p.bR/\k∈Q/\rY c f Q y k out/\st.get o=some ⟨true,1,dP par cnt⟩) (Q.idxOf y) ⟨y,[y],⟨326017001,st_b.next+1+1⟩,rfl,by(simp only[go_sem, ↓reduceIte,Nat.reduceEqDiff,Nat.reduceAdd,Nat.reduceSub,Nat.reduceLeDiff,reduceCtorEq]),by(simp only[go_sem, ↓reduceIte,Nat.reduceEqDiff,Nat.reduceAdd,Nat.reduceSub,Nat.reduceLeDiff,reduceCtorEq])<;>rfl,by(simp only[go_sem, ↓reduceIte,Nat.reduceEqDiff,Nat.reduceAdd,Nat.reduceSub,Nat.reduceLeDiff,reduceCtorEq])<;>rfl,cE,cE,(hB.iff y hy).1 ad,rY.start ((hB.iff y hy).1 ad),by(have ND:=dW (i:=o) (n:=st_b.next) ad);simp only[go_sem, ↓reduceIte,Nat.reduceEqDiff,Nat.reduceAdd,Nat.reduceSub,Nat.reduceLeDiff,reduceCtorEq,ND,bgo]⟩ ?_
   rintro m env_d st_d ⟨k,out,p,rfl,d13,d12,dgp,dpn,dpo,hkQ,rO,dgo⟩ dkp
   have d1:=dkp 1 (by kernel_rfl)
   have d8:=dkp 8 (by kernel_rfl)
   simp only[go_sem, ↓reduceIte,Nat.reduceEqDiff,Nat.reduceAdd,Nat.reduceSub,Nat.reduceLeDiff,reduceCtorEq,b1,b8]at d1 d8
   clear dkp
   have I2:=dW dpn
   have yK:=dW (i:=o) (n:=st_d.next) ad
   have dX:=dE (a:=o) (b:=p) ad
   have hol:=rO.len hB.lt
   have eo:=hB.lt k hkQ
   have fP:(out.map eN).length=out.length:=by simp
   by_cases Qk:k=x
   ·have hd:decide ((k:Int)=(x:Int))=true:=decide_eq_true (by rw[Qk])
    have RX:0<out.length:=by
     obtain⟨rest,h1,_⟩:=rO
     rw[<-List.length_reverse,h1];simp
    (try((repeat(revert hN;revert N;apply Pn.out));refine wk (tw @d1 (tw @d8 (tw @d12 (tw @d13 (tw @hd @Bool.not_true))))) ?_;(repeat(refine Pn.mk ?_;intro N hN))))
    refine .inr (bd _ _ _ _ _ (fun r σ2 hq=>?_) (EK out RX ad p _ dgp cE))
    obtain⟨DN,oJ,pe⟩:=hq
    refine hN _ _ ?_
    clear hN N
    (try((repeat(revert hN;revert N;apply Pn.out));refine wk @d12 ?_;(repeat(refine Pn.mk ?_;intro N hN))))
    refine⟨[.own p 0 out.length],sd @d12,.sl (out.reverse.map eN),?_,.inr ⟨out.reverse,rfl,by subst Qk;exact rO.QA hB.lt⟩⟩
    exact fa (sz:=1) DN (by simp) fun a=>IC _ 4 a
   ·have hd:decide ((k:Int)=(x:Int))=false:=decide_eq_false fun h=>Qk ad
    obtain⟨u,huQ,hpu,we,hr⟩:=hB.up k hkQ Qk
    have eC:=dL (f:=par) eo
    rw[aM,hpu]at eC
    have RF:(k:Int)<(cnt:Int):=ad
    have e1:out.length+1<=16777216:=ad
    (try((repeat(revert hN;revert N;apply Pn.out));refine wk (tw @d1 (tw @d8 (tw @d12 (tw @d13 (tw @hd (tw @Bool.not_false (tw @dgo (tw @dgp (tw @eC (tw @tl (tw @RF (tw @I2 (tw @yK (tw @dX (tw @fP @e1))))))))))))))) ?_;(repeat(refine Pn.mk ?_;intro N hN))))
    refine⟨_,we,u,out++[u],⟨326021003,st_d.next+1+1⟩,rfl,sd @Nat.zero_add,by rw[List.length_append];simp only[go_sem, ↓reduceIte,Nat.reduceEqDiff,Nat.reduceAdd,Nat.reduceSub,Nat.reduceLeDiff,reduceCtorEq,List.length_cons,List.length_nil],by rw[List.map_append,List.map_cons,List.map_nil];simp only[go_sem, ↓reduceIte,Nat.reduceEqDiff,Nat.reduceAdd,Nat.reduceSub,Nat.reduceLeDiff,reduceCtorEq,eN],cE,cE,huQ,rO.step huQ we hr,sd (tw @yK (tw @dX @dgo))⟩
theorem xE (b:Nat):∀(l:List Nat) (a:Nat) (f:Nat->Nat->Int),kU f ((a::l)++[b])=jB (kU f (a::l)) ((a::l).getLast (by simp)) b
 |[],a,f=>rfl
 |c::l,a,f=>by
  rw[List.cons_append,List.cons_append,kU,<-List.cons_append,xE b l c (jB f a c),kU,List.getLast_cons_cons]
theorem Dh {p:List Nat} {f:Nat->Nat->Int} {i:Nat} (h1:1<=i) (hi:i<p.length):kU f (p.take (i+1))=jB (kU f (p.take i)) (p[i-1]'ad) p[i]:=by
 rw[List.take_succ_eq_append_getElem hi]
 have gQ:p.take i≠[]:=by
  intro h
  have:(p.take i).length=0:=by rw[h];rfl
  rw[List.length_take]at this;omega
 obtain⟨a,l,Qe⟩:∃a l,p.take i=a::l:=by
  cases h:p.take i with
  |nil=>exact absurd h gQ
  |cons a l=>exact⟨a,l,rfl⟩
 have sI:(p.take i).getLast gQ=p[i-1]'ad:=by
  rw[List.getLast_eq_getElem,List.getElem_take]
  congr 1
  rw[List.length_take];omega
 simp only[Qe]at sI ⊢
 rw[xE,sI]
theorem EF (f:Nat->Nat->Int) (a b u v:Nat):jB f a b u v<=f u v+1/\f u v-1<=jB f a b u v:=by
 unfold jB bump
 split<;>split<;>constructor<;>omega
theorem kV:∀(p:List Nat) (f:Nat->Nat->Int) (u v:Nat),kU f p u v<=f u v+p.length/\f u v-p.length<=kU f p u v
 |[],f,u,v=>by simp[kU]
 |[_],f,u,v=>by simp[kU];omega
 |a::b::r,f,u,v=>by
  rw[kU]
  have h1:=kV (b::r) (jB f a b) u v
  have h2:=EF f a b u v
  simp only[List.length_cons]at h1 ⊢
  omega
theorem me.push {g g':Rows} {X o1 o2:Id} {R1 R2:Nat->Id} {n nb:Nat} {c f:Nat->Nat->Int} (I:Fv X o1 o2 R1 R2 n nb) (h:me g X o1 o2 R1 R2 n c f) {a b:Nat} (ha:a<n) (hb:b<n) (l7:a≠b) (hA:g' (R2 a)=some ⟨true,1,dP (bump f a b 1 a) n⟩) (hB:g' (R2 b)=some ⟨true,1,dP (bump (bump f a b 1) b a (-1) b) n⟩) (hf:∀i:Id,i.bR<nb->(i=R2 a)=False->(i=R2 b)=False->g' i=g i):me g' X o1 o2 R1 R2 n c (jB f a b):=by
 have ne:∀{i:Id} {s:Nat},i.site=s->(s==324005006)=false->∀a,a<n->(i=R2 a)=False:=fun {i s} hi hs a ha=>by
  simp only[eq_iff_iff,iff_false]
  rintro rfl
  rw[I.KP a ha]at hi
  subst hi
  simp at hs
 refine⟨(hf _ I.vx (ne I.sx (by decide) _ ha) (ne I.sx (by decide) _ hb)).trans h.x,(hf _ I.v1 (ne I.s1 (by decide) _ ha) (ne I.s1 (by decide) _ hb)).trans h.t1,(hf _ I.v2 (ne I.s2 (by decide) _ ha) (ne I.s2 (by decide) _ hb)).trans h.t2,fun i hi=>(hf _ (I.SB i hi) (ne (I.Qy i hi) (by decide) _ ha) (ne (I.Qy i hi) (by decide) _ hb)).trans (h.r1 i hi),fun i hi=>?_⟩
 by_cases H4:i=b
 ·subst H4;exact hB
 ·by_cases LR:i=a
  ·subst LR
   rw[hA,jB,jl H4]
  ·rw[jB,jl H4,jl LR,hf _ (I.PM i hi) (by simp only[eq_iff_iff,iff_false];exact fun he=>LR (I.i2 i _ hi ha he)) (by simp only[eq_iff_iff,iff_false];exact fun he=>H4 (I.i2 i _ hi hb he))]
   exact h.r2 i hi
theorem ME (cnt:Nat) (DQ:1<=cnt) (hn:cnt<=1048576) (c:Nat->Nat->Int) (hc:∀u v,u<cnt->v<cnt->0<=c u v/\c u v<=16777216) (x y:Nat) (hx:x<cnt) (hy:y<cnt) (I5:x≠y) (t:Int) (ht:t<=1099511627776)
  (X o1 o2:Id) (R1 R2:Nat->Id) (nb:Nat) (I:Fv X o1 o2 R1 R2 cnt nb) (σ:ar) (hM:me σ.get X o1 o2 R1 R2 cnt c (fun _ _=>0)) (Qn:nb<=σ.next):
  Call Tryz.prog 325 [.ptr X 0 0,.int .i64 x,.int .i64 y,.int .i64 t] σ fun r σ'=>∃(k:Nat) (f:Nat->Nat->Int),r=.int .i64 k/\kA cnt c f x y k/\me σ'.get X o1 o2 R1 R2 cnt c f/\((∃S:Nat->Bool,S x=true/\S y=false/\∀u v,u<cnt->v<cnt->S u=true->S v=false->¬f u v<c u v)∨t<=k)/\σ.next<=σ'.next:=by
 refine gj eL rfl fun hl=>?_
 clear hl
 have hxS:(fun v=>decide (v=x)) x=true:=by simp
 have hyS:(fun v=>decide (v=x)) y=false:=by simp;exact fun h=>I5 h.symm
 obtain⟨top,Sd⟩:∃top,top=ll cnt (fun v=>decide (v=x)) c:=⟨_,rfl⟩
 (try((repeat(revert hN;revert N;apply Pn.out));refine wk @Nat.zero_add ?_;(repeat(refine Pn.mk ?_;intro N hN))))
 refine bp (fun m env st=>∃(k:Nat) (f:Nat->Nat->Int),m=(top-k).toNat/\env 9=.int .i64 (k:Int)/\kA cnt c f x y k/\me st.get X o1 o2 R1 R2 cnt c f/\σ.next<=st.next/\(0<k->(k:Int)<=t)/\∀u v,-((k:Int)*(cnt:Int))<=f u v) (top-0).toNat ⟨0,fun _ _=>0,rfl,by(simp only[go_sem, ↓reduceIte,Nat.reduceEqDiff,Nat.reduceAdd,Nat.reduceSub,Nat.reduceLeDiff,reduceCtorEq])<;>rfl,kA.zero fun u v hu hv=>(hc u v hu hv).1,hM,cE,fun h=>absurd h (Nat.lt_irrefl 0),fun u v=>by simp⟩ ?_
 rintro m env_b st_b ⟨k,f,rfl,b9,hF,bM,bn,bk,blo⟩ bkp
 have b0:=bkp 0 (by kernel_rfl)
 have b1:=bkp 1 (by kernel_rfl)
 have b2:=bkp 2 (by kernel_rfl)
 have b3:=bkp 3 (by kernel_rfl)
 simp only[go_sem, ↓reduceIte,Nat.reduceEqDiff,Nat.reduceAdd,Nat.reduceSub,Nat.reduceLeDiff,reduceCtorEq]at b0 b1 b2 b3
 clear bkp
 have hz:cR (dG st_b.get) 6 [.ptr X 0 0,.int .i64 (x:Int),.int .i64 (y:Int)]=some [.dI (fo cnt c f),.int .i64 x,.int .i64 y]:=by simp only[ab,ae,bM.fz,az,Option.map_some]
 (try((repeat(revert hN;revert N;apply Pn.out));refine wk (tw @b0 (tw @b1 (tw @b2 (tw @b3 @b9)))) ?_;(repeat(refine Pn.mk ?_;intro N hN))))
 refine .inr (bd _ _ _ _ _ (fun r σ1 hq=>?_) ((KX cnt DQ hn c f x y hx hy).x mixed hz))
 obtain⟨Gx,rfl⟩:=hq
 refine hN _ _ ?_
 clear hN N
 rcases Gx with⟨rfl,S,Qb,Qc,Oo⟩|⟨p,rfl,hW⟩
 ·(try((repeat(revert hN;revert N;apply Pn.out));refine wk (tw @b0 (tw @b1 (tw @b2 (tw @b3 (tw @b9 (tw @Bool.not_true @Bool.not_false)))))) ?_;(repeat(refine Pn.mk ?_;intro N hN))))
  refine gI (.inl rfl) (vs:=[.int .i64 (k:Int)]) (sd @Nat.zero_add) ⟨k,f,rfl,hF,by(try dsimp only);exact bM,.inl ⟨S,Qb,Qc,Oo⟩,cE⟩
 ·obtain⟨⟨rs,rfl,sI⟩,kD,fq,hplt⟩:=hW
  by_cases H5:t<=(k:Int)
  ·(try((repeat(revert hN;revert N;apply Pn.out));refine wk (tw @b0 (tw @b1 (tw @b2 (tw @b3 (tw @b9 (tw @H5 (tw @Bool.not_true @Bool.not_false))))))) ?_;(repeat(refine Pn.mk ?_;intro N hN))))
   refine gI (.inl rfl) (vs:=[.int .i64 (k:Int)]) (sd @Nat.zero_add) ⟨k,f,rfl,hF,by(try dsimp only);exact bM,.inr H5,cE⟩
  ·(try((repeat(revert hN;revert N;apply Pn.out));refine wk (tw @b0 (tw @b1 (tw @b2 (tw @b3 (tw @b9 (tw @H5 (tw @Bool.not_true @Bool.not_false))))))) ?_;(repeat(refine Pn.mk ?_;intro N hN))))
   have lx:=gS cnt _ kD hplt
   have hkc:(k:Int)*(cnt:Int)<=1099511627776*1048576:=Int.mul_le_mul ad ad ad ad
   have hfb:=hF.bound (S:=fun v=>decide (v=x)) hxS hyS
   have hnear:=kV
   obtain⟨p,hp⟩:∃p,p=x::rs:=⟨_,rfl⟩
   have jM:eN x::List.map eN rs=p.map eN:=by rw[hp];rfl
   rw[jM]
   have L2:1<=p.length:=by rw[hp];simp
   have Q4:=hF.aug sI kD fq hplt
   rw[<-hp]at Q4 kD fq hplt lx
   have L9:p.take 1=[x]:=by rw[hp];rfl
   clear jM sI
   refine bp (fun m env st=>∃i:Nat,m=p.length-i/\1<=i/\i<=p.length/\env 11=.int .i64 (i:Int)/\me st.get X o1 o2 R1 R2 cnt c (kU f (p.take i))/\st_b.next<=st.next) (p.length-1) ⟨1,rfl,Nat.le_refl _,L2,by(simp only[go_sem, ↓reduceIte,Nat.reduceEqDiff,Nat.reduceAdd,Nat.reduceSub,Nat.reduceLeDiff,reduceCtorEq])<;>rfl,by rw[L9];exact bM,cE⟩ ?_
   rintro m env_c st_c ⟨i,rfl,CA,rQ,c11,cM,cn⟩ ckp
   have c0:=ckp 0 (by kernel_rfl)
   have c1:=ckp 1 (by kernel_rfl)
   have c2:=ckp 2 (by kernel_rfl)
   have c3:=ckp 3 (by kernel_rfl)
   have c9:=ckp 9 (by kernel_rfl)
   have jR:=ckp 10 (by kernel_rfl)
   simp only[go_sem, ↓reduceIte,Nat.reduceEqDiff,Nat.reduceAdd,Nat.reduceSub,Nat.reduceLeDiff,reduceCtorEq,b0,b1,b2,b3,b9]at c0 c1 c2 c3 c9 jR
   clear ckp
   have fP:(p.map eN).length=p.length:=by simp
   by_cases hi:(i:Int)<(p.length:Int)
   ·have gP:i<p.length:=ad
    have tZ:=Dh (f:=f) CA gP
    obtain⟨a,ha⟩:∃a,a=p[i-1]'ad:=⟨_,rfl⟩
    obtain⟨b,hb⟩:∃b,b=p[i]:=⟨_,rfl⟩
    have Cs:a<cnt:=by rw[ha];exact hplt _ (List.getElem_mem _)
    have Cu:b<cnt:=by rw[hb];exact hplt _ (List.getElem_mem _)
    have l7:a≠b:=by
     rw[ha,hb]
     exact List.pairwise_iff_getElem.1 kD (i-1) i ad gP ad
    have Rx:(p.map eN)[i-1]? =some [.int .i64 (a:Int)]:=by rw[List.getElem?_map,List.getElem?_eq_getElem ad,ha];rfl
    have OG:(p.map eN)[i]? =some [.int .i64 (b:Int)]:=by rw[List.getElem?_map,List.getElem?_eq_getElem gP,hb];rfl
    rw[<-ha,<-hb]at tZ
    have RL:=kV (p.take i) f a b
    have RM:=kV (p.take i) f b a
    rw[List.length_take]at RL RM
    have hl1:=blo b a
    have Gq:=blo a b
    have CF:=hF.le a b Cs Cu
    have IZ:=hF.le b a Cu Cs
    have hca:=hc a b Cs Cu
    have Cv:=hc b a Cu Cs
    generalize kU f (p.take i)=fl at *
    have gA:=pV (R:=R2) (n:=cnt) Cs
    have gB:=pV (R:=R2) (n:=cnt) Cu
    have rA:=cM.r2 _ Cs
    have rB:=cM.r2 _ Cu
    have cA:=dL (f:=fl a) Cu
    have cB:=dL (f:=fl b) Cs
    have sA:=mo (f:=fl) (a:=a) (d:=1) Cu
    have LZ:bump fl a b 1 b=fl b:=jl fun h=>l7 h.symm
    have sB:=mo (f:=bump fl a b 1) (a:=b) (b:=a) (d:=-1) (n:=cnt) Cs
    rw[LZ]at sB
    have gX:=cM.x
    have g2:=cM.t2
    have gN:(a:Int)<(cnt:Int):=ad
    have fG:(b:Int)<(cnt:Int):=ad
    have Fk:IntKind.i64.wrap ((i:Int)-1)=((i-1:Nat):Int):=by rw[bP ad];omega
    have pg:((i-1:Nat):Int)<(p.length:Int):=ad
    have wA:IntKind.i64.wrap (fl a b+1)=fl a b+1:=bP ad
    have wB:IntKind.i64.wrap (fl b a-1)=fl b a+-1:=by rw[bP ad];omega
    have hwi:IntKind.i64.wrap ((i:Int)+1)=((i+1:Nat):Int):=aA ad
    have l2:=js R2 cnt cnt
    have lA:=dF (fl a) cnt
    have lB:=dF (fl b) cnt
    have gQ:(R2 a=R2 b)=False:=by simp only[eq_iff_iff,iff_false];exact fun h=>l7 (I.i2 _ _ Cs Cu h)
    have Gs:(R2 b=R2 a)=False:=by simp only[eq_iff_iff,iff_false];exact fun h=>l7 (I.i2 _ _ Cs Cu h.symm)
    have xA:=uh I.sx (I.KP a Cs) (by decide)
    have xB:=uh I.sx (I.KP b Cu) (by decide)
    have yA:=uh I.s2 (I.KP a Cs) (by decide)
    have yB:=uh I.s2 (I.KP b Cu) (by decide)
    have qX:=dW (i:=X) (n:=st_c.next) (by have:=I.vx;omega)
    have q2:=dW (i:=o2) (n:=st_c.next) (by have:=I.v2;omega)
    have qA:=dW (i:=R2 a) (n:=st_c.next) (by have:=I.PM a Cs;omega)
    have qB:=dW (i:=R2 b) (n:=st_c.next) (by have:=I.PM b Cu;omega)
    rw[aM]at cA cB sA sB
    (try((repeat(revert hN;revert N;apply Pn.out));refine wk (tw @c0 (tw @c9 (tw @jR (tw @c11 (tw @fP (tw @hi (tw @pg (tw @Rx (tw @OG (tw @gA (tw @gB (tw @rA (tw @rB (tw @cA (tw @cB (tw @sA (tw @sB (tw @gX (tw @g2 (tw @gN (tw @fG (tw @Fk (tw @wA (tw @wB (tw @hwi (tw @l2 (tw @lA (tw @lB (tw @gQ (tw @Gs (tw @xA (tw @xB (tw @yA (tw @yB (tw @qX (tw @q2 (tw @qA @qB))))))))))))))))))))))))))))))))))))) ?_;(repeat(refine Pn.mk ?_;intro N hN))))
    refine⟨_,?_,i+1,rfl,ad,ad,sd @hwi,?_,cE⟩
    ·omega
    ·rw[tZ]
     refine cM.push I Cs Cu l7 ?_ ?_ fun j hj h1 h2=>?_
     ·simp only[go_sem, ↓reduceIte,Nat.reduceEqDiff,Nat.reduceAdd,Nat.reduceSub,Nat.reduceLeDiff,reduceCtorEq,gQ]
     ·simp only[go_sem, ↓reduceIte,Nat.reduceEqDiff,Nat.reduceAdd,Nat.reduceSub,Nat.reduceLeDiff,reduceCtorEq,gQ]
     ·simp only[go_sem, ↓reduceIte,Nat.reduceEqDiff,Nat.reduceAdd,Nat.reduceSub,Nat.reduceLeDiff,reduceCtorEq,h1,h2]
   ·have Kq:i=p.length:=ad
    subst Kq
    rw[List.take_length]at cM
    have Pf:IntKind.i64.wrap ((k:Int)+1)=((k+1:Nat):Int):=aA ad
    have Rr:=Q4.bound (S:=fun v=>decide (v=x)) hxS hyS
    (try((repeat(revert hN;revert N;apply Pn.out));refine wk (tw @c0 (tw @c9 (tw @jR (tw @c11 (tw @fP (tw @hi @Pf)))))) ?_;(repeat(refine Pn.mk ?_;intro N hN))))
    refine⟨_,?_,k+1,_,rfl,sd @Pf,by rw[Int.natCast_add];exact Q4,cM,cE,fun _=>ad,fun u v=>?_⟩
    ·rw[<-Sd]at Rr;omega
    ·have h1:=(kV p f u v).2
     have h2:=blo u v
     rw[Int.natCast_add,Int.add_mul]
     omega
end Go.Proofs.YtphenfakmdknlaaGreat.V

namespace Go.Proofs.YtphenfakmdknlaaGreat.V
open Go.RowKit
section
variable {n:Nat} {c f:Nat->Nat->Int}
theorem kS.xV {S:Nat->Bool}:∀(r:List Nat) (a:Nat),kS f c (a::r)->(∀v∈a::r,v<n)->S a=true->S ((a::r).getLast (by simp))=false->∃u w,u<n/\w<n/\S u=true/\S w=false/\f u w<c u w
 |[],a,_,_,h1,h2=>by
  simp at h2
  rw[h1]at h2;cases h2
 |b::r,a,hr,hl,h1,h2=>by
  cases hb:S b
  ·exact⟨a,b,hl a (by simp),hl b (by simp),h1,hb,hr.1⟩
  ·exact kS.xV r b hr.2 (fun v hv=>hl v (List.mem_cons_of_mem _ hv)) hb (by rw[List.getLast_cons_cons]at h2;exact h2)
def r9 (n:Nat) (c f:Nat->Nat->Int) (x y:Nat):Prop:=∃S:Nat->Bool,S x=true/\S y=false/\∀u v,u<n->v<n->S u=true->S v=false->¬f u v<c u v
theorem tQ.xV {x y:Nat} {p:List Nat} (h:tQ n c f x y p) {S:Nat->Bool} (hx:S x=true) (hy:S y=false):∃u w,u<n/\w<n/\S u=true/\S w=false/\f u w<c u w:=by
 obtain⟨r,rfl,hl⟩:=h.QA
 exact kS.xV r x h.room h.lt hx (by rw[hl];exact hy)
theorem r9.no {x y:Nat} (h:r9 n c f x y) (p:List Nat):¬tQ n c f x y p:=fun hp=>by
 obtain⟨S,h1,h2,h3⟩:=h
 obtain⟨u,w,hu,hw,hSu,hSw,hr⟩:=hp.xV h1 h2
 exact h3 u w hu hw hSu hSw hr
noncomputable def gq (n:Nat) (c f:Nat->Nat->Int) (y:Nat) (u:Nat):Bool:=@decide (∃p,tQ n c f u y p) (Classical.propDecidable _)
theorem zI {u y:Nat} {p:List Nat} (h:tQ n c f u y p):gq n c f y u=true:=by
 have:∃p,tQ n c f u y p:=⟨p,h⟩
 simp[gq,this]
theorem C6 {u y:Nat} (h:r9 n c f u y):gq n c f y u=false:=by
 have:¬∃p,tQ n c f u y p:=fun⟨p,hp⟩=>h.no p hp
 simp[gq,this]
theorem JZ {u y:Nat} (h:gq n c f y u=true):∃p,tQ n c f u y p:=by simpa[gq]using h
theorem vk {y:Nat} (hy:y<n):gq n c f y y=true:=zI (p:=[y]) ⟨⟨[],rfl,rfl⟩,by simp,trivial,by simpa using hy⟩
def oZ (n:Nat) (c f:Nat->Nat->Int) (y k:Nat):Prop:=∀u,u<k->gq n c f y u=true∨r9 n c f u y
theorem oZ.shut {y:Nat} (h:oZ n c f y n) {u v:Nat} (hu:u<n) (hv:v<n) (h1:gq n c f y u=false) (h2:gq n c f y v=true):¬f u v<c u v:=by
 intro hr
 rcases h u hu with h3|⟨S,s1,s2,s3⟩
 ·rw[h1]at h3;cases h3
 obtain⟨p,hp⟩:=JZ h2
 cases hSv:S v
 ·exact s3 u v hu hv s1 hSv hr
 ·obtain⟨a,b,ha,hb,hSa,hSb,tK⟩:=hp.xV hSv s2
  exact s3 a b ha hb hSa hSb tK
end
theorem E9 {n:Nat} {bs:List PB} (hb:∀b∈bs,b.a<n/\b.b<n) {f:Nat->Nat->Int} {y:Nat} {val:Int} (hy:y<n) (hF:kA n (eM bs) f 0 y val) (Rp:r9 n (eM bs) f 0 y) (hW:oZ n (eM bs) f y n):nY n bs val ((List.range n).filter (gq n (eM bs) f y)):=by
 have h0:=C6 Rp
 have h1:(fun v=> !gq n (eM bs) f y v) 0=true:=by show(!gq n (eM bs) f y 0)=true;rw[h0];rfl
 have h2:(fun v=> !gq n (eM bs) f y v) y=false:=by show(!gq n (eM bs) f y y)=false;rw[vk hy];rfl
 refine⟨fun v=> !gq n (eM bs) f y v,h1,⟨y,hy,h2⟩,?_,List.filter_congr fun v _=>by simp⟩
 rw[<-sr hb]
 exact hF.full h1 h2 fun u v hu hv k1 k2=>hW.shut hu hv (by simpa using k1) (by simpa using k2)
end Go.Proofs.YtphenfakmdknlaaGreat.V

namespace Go.Proofs.YtphenfakmdknlaaGreat.V
def oP (R:List (List Nat)):Nat:=(R.map fun p=>2*p.length-1).sum
theorem fK (p:List Nat) (R:List (List Nat)):oP (p::R)=2*p.length-1+oP R:=by simp[oP]
theorem qw {R R':List (List Nat)} (h:R.Perm R'):oP R=oP R':=by
 induction h with
 |nil=>rfl
 |cons x _ ih=>rw[fK,fK,ih]
 |swap x y l=>rw[fK,fK,fK,fK];omega
 |trans _ _ h1 h2=>exact h1.trans h2
theorem lq (S:Nat->Bool):∀Q:List Nat,(Q.filter S).length+(Q.filter fun x=> !S x).length=Q.length
 |[]=>rfl
 |x::Q=>by
  have ih:=lq S Q
  cases h:S x<;>simp[List.filter_cons,h]<;>omega
theorem sY {S:Nat->Bool} {Q:List Nat} {R:List (List Nat)} (h1:∃x∈Q,S x=true) (h2:∃y∈Q,S y=false):oP (Q.filter S::Q.filter (fun x=> !S x)::R)<oP (Q::R):=by
 rw[fK,fK,fK]
 have h:=lq S Q
 obtain⟨x,hx,uN⟩:=h1
 obtain⟨y,hy,Me⟩:=h2
 have k1:0<(Q.filter S).length:=List.length_pos_of_mem (List.mem_filter.2 ⟨hx,uN⟩)
 have k2:0<(Q.filter fun x=> !S x).length:=List.length_pos_of_mem (List.mem_filter.2 ⟨hy,by rw[Me];rfl⟩)
 omega
theorem zj {n:Nat} {bs:List PB} {t:Int} (hs:∀b∈bs,0<=b.s):∀(m:Nat) (R:List (List Nat)),oP R<=m->dZ n bs t R->∃R',dZ n bs t R'/\∀p∈R',ft bs t p:=by
 intro m
 induction m with
 |zero=>
  intro R hm h
  refine⟨R,h,fun p hp=>?_⟩
  exfalso
  obtain⟨A,B,rfl⟩:=List.append_of_mem hp
  have:=qw (List.perm_middle (a:=p) (l₁:=A) (l₂:=B))
  rw[fK]at this
  have hn:0<p.length:=List.length_pos_iff.2 (h.some p hp)
  omega
 |succ m ih=>
  intro R hm h
  by_cases hc:∀p∈R,ft bs t p
  ·exact⟨R,h,hc⟩
  ·obtain⟨p,hp⟩:=Classical.not_forall.1 hc
   obtain⟨hpR,hp⟩:=Classical.not_imp.1 hp
   obtain⟨S,hS⟩:=Classical.not_forall.1 hp
   obtain⟨h1,hS⟩:=Classical.not_imp.1 hS
   obtain⟨h2,hS⟩:=Classical.not_imp.1 hS
   obtain⟨A,B,rfl⟩:=List.append_of_mem hpR
   have Qp:=List.perm_middle (a:=p) (l₁:=A) (l₂:=B)
   have h':=(h.perm Qp).split hs h1 h2 ad
   have ea:=sY (R:=A++B) h1 h2
   rw[<-qw Qp]at ea
   exact ih _ ad h'
def D5 (p:List Nat):List (List Nat)->List (List Nat)
 |[]=>[p]
 |q::R=>if p.headD 0<q.headD 0 then p::q::R else q::D5 p R
theorem qt (p:List Nat):∀R,(D5 p R).Perm (p::R)
 |[]=>List.Perm.refl _
 |q::R=>by
  rw[D5]
  split
  ·exact List.Perm.refl _
  ·exact((qt p R).cons q).trans (List.Perm.swap p q R)
theorem yS {p:List Nat}:∀{R:List (List Nat)},(R.Pairwise fun a b=>a.headD 0<b.headD 0)->(∀q∈R,q.headD 0≠p.headD 0)->(D5 p R).Pairwise fun a b=>a.headD 0<b.headD 0
 |[],_,_=>List.pairwise_singleton ..
 |q::R,h,hd=>by
  have h':=List.pairwise_cons.1 h
  rw[D5]
  split
  ·rename_i hl
   refine List.pairwise_cons.2 ⟨fun a ha=>?_,h⟩
   rcases List.mem_cons.1 ha with rfl|ha
   ·exact hl
   ·have:=h'.1 a ha;omega
  ·rename_i hl
   refine List.pairwise_cons.2 ⟨fun a ha=>?_,yS h'.2 fun a ha=>hd a (by simp[ha])⟩
   rcases List.mem_cons.1 ((qt p R).mem_iff.1 ha)with rfl|ha
   ·have:=hd q (by simp);omega
   ·exact h'.1 a ha
theorem pd:∀{R:List (List Nat)},(∀p∈R,p≠[])->(R.Pairwise fun p q=>∀x∈p,x∉q)->∃R',R.Perm R'/\R'.Pairwise fun a b=>a.headD 0<b.headD 0
 |[],_,_=>⟨[],List.Perm.refl _,.nil⟩
 |p::R,h0,ha=>by
  have Qd:=List.pairwise_cons.1 ha
  obtain⟨R',h1,h2⟩:=pd (R:=R) (fun q hq=>h0 q (by simp[hq])) Qd.2
  refine⟨D5 p R',(h1.cons p).trans (qt p R').symm,yS h2 fun q hq e=>?_⟩
  have Fh:=h1.mem_iff.2 hq
  have hm:∀{z:List Nat},z≠[]->z.headD 0∈z:=fun {z} hz=>by cases z with|nil=>exact absurd rfl hz|cons a b=>simp
  exact Qd.1 q Fh _ (hm (h0 p (by simp))) (e▸hm (h0 q (by simp[Fh])))
theorem zi (n:Nat) (bs:List PB) (t:Int) (hs:∀b∈bs,0<=b.s) (ht:1<=t):∃R,dZ n bs t R/\(∀p∈R,ft bs t p)/\R.Pairwise fun a b=>a.headD 0<b.headD 0:=by
 obtain⟨R,h1,h2⟩:=zj hs _ _ (Nat.le_refl _) (pc (n:=n) (t:=t) (GP bs) (yY bs) ht)
 obtain⟨R',h3,h4⟩:=pd h1.some h1.apart
 exact⟨R',h1.perm h3,fun p hp=>h2 p (h3.mem_iff.2 hp),h4⟩
end Go.Proofs.YtphenfakmdknlaaGreat.V

namespace Go.Proofs.YtphenfakmdknlaaGreat.V
open Go.RowKit
theorem u7 {bs:List PB} {t:Int} {p:List Nat} (h:p.length<2):ft bs t p:=fun S ⟨x,hx,h1⟩ ⟨y,hy,h2⟩=>by
 have e:x=y:=by
  match p,h,hx,hy with
  |[a],_,hx,hy=>rw[List.mem_singleton.1 hx,List.mem_singleton.1 hy]
  |[],_,hx,_=>cases hx
 rw[e,h2]at h1;cases h1
def rZ (n:Nat) (bs:List PB) (t:Int) (p:List Nat) (R:List (List Nat)):Prop:=(∀R0,dZ n bs t (p::R0)->dZ n bs t (R++R0))/\(∀q∈R,ft bs t q)/\(R.map List.length).sum=p.length/\0<R.length/\R.length<=p.length
theorem rZ.one {n:Nat} {bs:List PB} {t:Int} {p:List Nat} (h:ft bs t p) (h0:0<p.length):rZ n bs t p [p]:=
 ⟨fun R0 hR=>hR,fun q hq=>by rw[List.mem_singleton.1 hq];exact h,by simp,by simp,by simp;omega⟩
theorem rZ.two {n:Nat} {bs:List PB} {t:Int} {p:List Nat} {T:Nat->Bool} {R1 R2:List (List Nat)} (hs:∀b∈bs,0<=b.s) (h1:∃x∈p,T x=true) (h2:∃y∈p,T y=false) (hc:jD (·∈p) T bs<t) (k1:rZ n bs t (p.filter T) R1) (k2:rZ n bs t (p.filter fun x=> !T x) R2):rZ n bs t p (R1++R2):=by
 have hl:=lq T p
 refine⟨fun R0 hR=>?_,fun q hq=>?_,by rw[List.map_append,List.sum_append,k1.2.2.1,k2.2.2.1,hl],by have:=k1.2.2.2.1;simp;omega,by have:=k1.2.2.2.2;have:=k2.2.2.2.2;simp;omega⟩
 ·have a1:=k1.1 _ (hR.split hs h1 h2 hc)
  have a2:dZ n bs t (p.filter (fun x=> !T x)::(R1++R0)):=a1.perm List.perm_middle
  have a3:=k2.1 _ a2
  refine a3.perm ?_
  rw[<-List.append_assoc]
  exact List.perm_append_comm.append_right R0
 ·rcases List.mem_append.1 hq with h|h
  ·exact k1.2.1 q h
  ·exact k2.2.1 q h
theorem dZ.left {n:Nat} {bs:List PB} {t:Int} {p:List Nat} {R0:List (List Nat)} {T:Nat->Bool} (hs:∀b∈bs,0<=b.s) (hR:dZ n bs t (p::R0)) (h1:∃x∈p,T x=true) (h2:∃y∈p,T y=false) (hc:jD (·∈p) T bs<t):∃Q,dZ n bs t (p.filter T::Q):=
 ⟨_,hR.split hs h1 h2 hc⟩
theorem dZ.right {n:Nat} {bs:List PB} {t:Int} {p:List Nat} {R0:List (List Nat)} {T:Nat->Bool} (hs:∀b∈bs,0<=b.s) (hR:dZ n bs t (p::R0)) (h1:∃x∈p,T x=true) (h2:∃y∈p,T y=false) (hc:jD (·∈p) T bs<t):∃Q,dZ n bs t (p.filter (fun x=> !T x)::Q):=
 ⟨_,(hR.split hs h1 h2 hc).perm (List.Perm.swap _ _ _)⟩
def fS:List Nat->List Nat->Int
 |[],[]=>0
 |[],_::_=>-1
 |_::_,[]=>1
 |a::p,b::q=>if a<b then -1 else if b<a then 1 else fS p q
theorem uy {a b:Nat} {p q:List Nat}:fS (a::p) (b::q)<0↔a<b∨(a=b/\fS p q<0):=by
 rw[fS]
 by_cases h1:a<b
 ·rw[if_pos h1];exact⟨fun _=>.inl h1,fun _=>ad⟩
 ·rw[if_neg h1]
  by_cases h2:b<a
  ·rw[if_pos h2];exact⟨fun h=>ad,fun h=>ad⟩
  ·rw[if_neg h2];exact⟨fun h=>.inr ⟨ad,h⟩,fun h=>by
    rcases h with h|h
    ·omega
    ·exact h.2⟩
theorem xT:∀p:List Nat,fS p p=0
 |[]=>rfl
 |a::p=>by rw[fS,if_neg ad,if_neg ad];exact xT p
theorem sq:∀{p q r:List Nat},fS p q<0->fS q r<0->fS p r<0
 |[],[],_,h,_=>absurd h (by simp[fS])
 |[],_::_,[],_,h=>absurd h (by simp[fS])
 |[],_::_,_::_,_,_=>by simp[fS]
 |_::_,[],_,h,_=>absurd h (by simp[fS])
 |_::_,_::_,[],_,h=>absurd h (by simp[fS])
 |a::p,b::q,c::r,h1,h2=>by
  rw[uy]at *
  rcases h1 with h1|⟨h1,k1⟩<;>rcases h2 with h2|⟨h2,k2⟩
  ·exact .inl ad
  ·exact .inl ad
  ·exact .inl ad
  ·exact .inr ⟨ad,sq k1 k2⟩
theorem qT:∀{p q r:List Nat},¬fS p q<0->¬fS q r<0->¬fS p r<0
 |_,_,[],_,_=>by
  rename_i p _ _ _
  cases p<;>simp[fS]
 |_,[],_::_,_,h=>absurd (show fS [] _<0 by simp[fS]) h
 |[],_::_,_::_,h,_=>absurd (show fS [] _<0 by simp[fS]) h
 |a::p,b::q,c::r,h1,h2=>by
  rw[uy]at *
  rintro(h3|⟨h3,k3⟩)
  ·by_cases e:a<b
   ·exact h1 (.inl e)
   ·exact h2 (.inl ad)
  ·by_cases e1:a=b
   ·refine qT (fun k=>h1 (.inr ⟨e1,k⟩)) (fun k=>h2 (.inr ⟨ad,k⟩)) k3
   ·by_cases e:a<b
    ·exact h1 (.inl e)
    ·exact h2 (.inl ad)
theorem Dp {p q:List Nat} (hp:p≠[]) (hq:q≠[]) (h:p.headD 0<q.headD 0):fS p q<0:=by
 match p,q,hp,hq,h with
 |a::p,b::q,_,_,h=>rw[fS,if_pos (by simpa using h)];omega
end Go.Proofs.YtphenfakmdknlaaGreat.V

namespace Go.Proofs.YtphenfakmdknlaaGreat.V
open Go.RowKit
attribute [local irreducible] dJ wpOps e8 Call
attribute [local go_sem] ax eB dY eJ eI cJ upd bD K.av bW AV.cells AV.cell rowOf rowsOf part ld rowAt bC bx cU de fj bf cC dv eO er cL dm cw cu cZ da bl aI bZ bj ck cj di dn dj bY bo cz dh bh au cq bJ fh aT bV bm aH cS aQ cV AV.undef aV bc db dd cY dc bQ du dw bG dq dp cm cr List.getD_cons_zero List.getD_cons_succ List.getD_nil List.all_cons List.all_nil Bool.and_true Bool.true_and Bool.and_self Bool.not_true Bool.not_false Option.map_some Option.map_none Option.bind_some Option.bind_none List.length_cons List.length_nil List.take_succ_cons List.take_zero List.take_nil List.drop_succ_cons List.drop_zero List.drop_nil List.head?_cons List.map_cons List.map_nil List.getElem?_cons_zero List.getElem?_cons_succ List.cons_append List.nil_append List.append_nil List.length_map List.set_cons_zero List.set_cons_succ Nat.reduceMul eq_self Int.toNat_natCast Int.natCast_nonneg and_self true_and and_true decide_true decide_false Bool.false_eq_true Nat.zero_add Nat.add_zero List.contains_cons List.contains_nil Bool.or_false Bool.false_or beq_self_eq_true Nat.reduceBEq ne_eq not_true_eq_false not_false_eq_true Id.mk.injEq false_and and_false Nat.reduceLT Int.reduceLE Int.reduceLT Int.reduceToNat Int.reduceNeg Int.reduceAdd Nat.le_refl List.length_append beq_true beq_false Bool.not_eq_eq_eq_not or_false false_or dG ab ae az aU bu aC aP aE aJ cD aX
theorem nw {p:List Nat} {k:Nat} (h:k<p.length):p.drop k=p.getD k 0::p.drop (k+1):=by
 rw[List.drop_eq_getElem_cons h,List.getD_eq_getElem?_getD,List.getElem?_eq_getElem h];rfl
theorem nu {p q:List Nat}:∀k:Nat,(∀j,j<k->j<p.length/\j<q.length/\p.getD j 0=q.getD j 0)->fS p q=fS (p.drop k) (q.drop k)
 |0,_=>by simp
 |k+1,h=>by
  obtain⟨h1,h2,h3⟩:=h k ad
  rw[nu k fun j hj=>h j ad,nw h1,nw h2,fS,h3,if_neg ad,if_neg ad]
theorem Cd {p q:List Nat} {k:Nat} (h:∀j,j<k->j<p.length/\j<q.length/\p.getD j 0=q.getD j 0) (h1:k<p.length) (h2:k<q.length) (gQ:p.getD k 0≠q.getD k 0):fS p q=kK ((p.getD k 0:Nat):Int) ((q.getD k 0:Nat):Int):=by
 rw[nu k h,nw h1,nw h2,fS,kK]
 by_cases h3:p.getD k 0<q.getD k 0
 ·rw[if_pos h3,if_pos ad]
 ·rw[if_neg h3,if_pos ad,if_neg ad,if_pos ad]
theorem uz {p q:List Nat} {k:Nat} (h:∀j,j<k->j<p.length/\j<q.length/\p.getD j 0=q.getD j 0) (h1:k<p.length) (h2:q.length<=k):fS p q=1:=by
 rw[nu k h,nw h1,List.drop_eq_nil_of_le h2];rfl
theorem xS {p q:List Nat} (h:∀j,j<p.length->j<p.length/\j<q.length/\p.getD j 0=q.getD j 0):fS p q=if p.length<q.length then -1 else 0:=by
 rw[nu p.length h,List.drop_length]
 split
 ·rename_i hl
  rw[nw hl];rfl
 ·rename_i hl
  rw[List.drop_eq_nil_of_le ad];rfl
theorem nr {a b:Int}:kK a b=0↔a=b:=by
 unfold kK
 split
 ·omega
 ·split<;>omega
theorem zR (p w:List Nat) (hp:p.length<=1048576) (hq:w.length<=1048576):ak Tryz.prog 98 [.sl (p.map eN),.sl (w.map eN)] (.int .i64 (fS p w)):=by
 refine ak.body eL rfl fun wg n0=>?_
 clear wg
 have jM:(p.map eN).length=p.length:=by simp
 have LX:(w.map eN).length=w.length:=by simp
 (try((repeat(revert hN;revert N;apply Pn.out));refine wk @jM ?_;(repeat(refine Pn.mk ?_;intro N hN))))
 refine bp (fun n env st=>∃k:Nat,n=(p.length)-k/\k<=(p.length)/\env 11=.int .i64 (k:Int)/\(∀j:Nat,j<k->(j<w.length/\p.getD j 0=w.getD j 0))) (p.length) ⟨0,ad,ad,sl @jM,fun _ h=>absurd h (Nat.not_lt_zero _)⟩ ?_
 rintro n_a env_a st_a ⟨k,rfl,ale,iM,aA0⟩ dt
 have a0:=dt 0 (by kernel_rfl);have a1:=dt 1 (by kernel_rfl);have a9:=dt 9 (by kernel_rfl);have iL:=dt 10 (by kernel_rfl)
 simp only[go_sem, ↓reduceIte,Nat.reduceEqDiff,Nat.reduceAdd,Nat.reduceSub,Nat.reduceLeDiff,reduceCtorEq,jM]at a0 a1 a9 iL
 clear dt
 by_cases hk:(k:Int)<(p.length:Int)
 ·have bK:∀{e:Env},(e 11=.int .i64 (IntKind.i64.wrap ((k:Int)+1)))->((k<w.length/\p.getD k 0=w.getD k 0))->∃m0,m0<(p.length)-k/\∃k:Nat,m0=(p.length)-k/\k<=(p.length)/\e 11=.int .i64 (k:Int)/\(∀j:Nat,j<k->(j<w.length/\p.getD j 0=w.getD j 0)):=fun x1 x2=>⟨_,ad,k+1,rfl,ad,(by rw[x1,aA ad]),(all_succ aA0 x2)⟩
  have eo:k<p.length:=ad
  have dy:∀j,j<k->j<p.length/\j<w.length/\p.getD j 0=w.getD j 0:=fun j hj=>⟨ad,aA0 j hj⟩
  have xm:=oc eo
  by_cases oK:(w.length:Int)<=(k:Int)
  ·(try((repeat(revert hN;revert N;apply Pn.out));refine wk (tw @iM (tw @a0 (tw @a1 (tw @a9 (tw @iL (tw @hk (tw @jM (tw @LX (tw @xm @oK))))))))) ?_;(repeat(refine Pn.mk ?_;intro N hN))))
   exact cH (b:=1) (.inl rfl) (sd (tw @iM (tw @a0 (tw @a1 (tw @a9 @iL))))) (uz dy eo ad).symm
  ·have RG:k<w.length:=ad
   have IQ:(k:Int)<(w.length:Int):=ad
   have DN:=oc RG
   have hc:=ql ((p.getD k 0:Nat):Int) ((w.getD k 0:Nat):Int)
   by_cases he:p.getD k 0=w.getD k 0
   ·have hd:decide (kK ((p.getD k 0:Nat):Int) ((w.getD k 0:Nat):Int)=0)=true:=decide_eq_true (nr.2 ad)
    (repeat(first|((repeat(revert hN;revert N;apply Pn.out));refine wk (tw @iM (tw @a0 (tw @a1 (tw @a9 (tw @iL (tw @hk (tw @jM (tw @LX (tw @xm (tw @DN (tw @oK (tw @IQ @hd)))))))))))) ?_;(repeat(refine Pn.mk ?_;intro N hN)))|((try apply Or.inl);refine⟨_,ak.x (hc) (sd (tw @iM (tw @a0 (tw @a1 (tw @a9 (tw @iL (tw @hk (tw @jM (tw @LX (tw @xm (tw @DN (tw @oK (tw @IQ @hd))))))))))))),?_⟩;refine hN _ _ ?_;clear hN N)))
    exact bK (sd (tw @iM (tw @a0 (tw @a1 (tw @a9 @iL))))) (⟨RG,he⟩)
   ·have hd:decide (kK ((p.getD k 0:Nat):Int) ((w.getD k 0:Nat):Int)=0)=false:=decide_eq_false fun h=>he (by have:=nr.1 h;omega)
    (repeat(first|((repeat(revert hN;revert N;apply Pn.out));refine wk (tw @iM (tw @a0 (tw @a1 (tw @a9 (tw @iL (tw @hk (tw @jM (tw @LX (tw @xm (tw @DN (tw @oK (tw @IQ @hd)))))))))))) ?_;(repeat(refine Pn.mk ?_;intro N hN)))|((try apply Or.inl);refine⟨_,ak.x (hc) (sd (tw @iM (tw @a0 (tw @a1 (tw @a9 (tw @iL (tw @hk (tw @jM (tw @LX (tw @xm (tw @DN (tw @oK (tw @IQ @hd))))))))))))),?_⟩;refine hN _ _ ?_;clear hN N)))
    exact cH (b:=kK ((p.getD k 0:Nat):Int) ((w.getD k 0:Nat):Int)) (.inl rfl) (sd (tw @iM (tw @a0 (tw @a1 (tw @a9 @iL))))) (Cd dy eo RG he).symm
 ·have jz:k=p.length:=ad
  subst jz
  have hr:=xS (p:=p) (q:=w) fun j hj=>⟨hj,aA0 j hj⟩
  by_cases hl:(p.length:Int)<(w.length:Int)
  ·rw[if_pos ad]at hr
   (try((repeat(revert hN;revert N;apply Pn.out));refine wk (tw @iM (tw @a0 (tw @a1 (tw @a9 (tw @iL (tw @hk (tw @jM (tw @LX @hl)))))))) ?_;(repeat(refine Pn.mk ?_;intro N hN))))
   exact cH (b:=-1) (.inl rfl) (sd (tw @iM (tw @a0 (tw @a1 (tw @a9 @iL))))) hr.symm
  ·rw[if_neg ad]at hr
   (try((repeat(revert hN;revert N;apply Pn.out));refine wk (tw @iM (tw @a0 (tw @a1 (tw @a9 (tw @iL (tw @hk (tw @jM (tw @LX @hl)))))))) ?_;(repeat(refine Pn.mk ?_;intro N hN))))
   exact cH (b:=0) (.inl rfl) (sd (tw @iM (tw @a0 (tw @a1 (tw @a9 @iL))))) hr.symm
def Nd (S:Nat) (L:List Nat) (v:AV) (g:Rows) (n:Nat):Prop:=(L=[]/\v=.cK)∨∃u:Id,v=.own u 0 L.length/\g u=some ⟨true,1,L.map eN⟩/\u.bR<n/\0<L.length/\u.site=S
theorem Nd.frame {S:Nat} {L:List Nat} {v v':AV} {g g':Rows} {n n':Nat} (h:Nd S L v g n) (he:v'=v) (hn:n<=n') (hf:∀x:Id,x.bR<n->x.site=S->g' x=g x):Nd S L v' g' n':=by
 subst he
 rcases h with h|⟨u,h1,h2,h3,h4,h5⟩
 ·exact .inl h
 ·exact .inr ⟨u,h1,(hf u h3 h5).trans h2,ad,h4,h5⟩
theorem y5 (cnt:Nat) (DQ:1<=cnt) (hn:cnt<=1048576) (c f:Nat->Nat->Int) (y:Nat) (hy:y<cnt):
  kz Tryz.prog 282 [.dI (fo cnt c f),.int .i64 y] fun r=>r=.sl (((List.range cnt).filter (gq cnt c f y)).map eN)/\oZ cnt c f y cnt:=by
 refine kz.body eL rfl fun hl n0=>?_
 clear hl
 have lM:=pU c cnt
 have hz:∀(g:Rows) (k:Nat),cR (dG g) 6 [.dI (fo cnt c f),.int .i64 (k:Int),.int .i64 (y:Int)]=some [.dI (fo cnt c f),.int .i64 k,.int .i64 y]:=fun g k=>by simp only[ab,ae,aE,az,Option.map_some]
 (try((repeat(revert hN;revert N;apply Pn.out));refine wk (tw @fo.eq_1 @lM) ?_;(repeat(refine Pn.mk ?_;intro N hN))))
 refine bp (fun n env st=>∃k:Nat,n=(cnt)-k/\k<=(cnt)/\env 12=.int .i64 (k:Int)/\(oZ cnt c f y k/\Nd 282006003 ((List.range k).filter (gq cnt c f y)) (env 5) st.get st.next)) (cnt) ⟨0,ad,ad,sl (tw @fo.eq_1 @lM),by(try dsimp only);exact⟨fun u hu=>absurd hu (Nat.not_lt_zero u),.inl ⟨rfl,sd @Nat.zero_add⟩⟩⟩ ?_
 rintro n_a env_a st_a ⟨k,rfl,ale,a12,aI0⟩ dt
 have a0:=dt 0 (by kernel_rfl);have a1:=dt 1 (by kernel_rfl);have iM:=dt 11 (by kernel_rfl)
 simp only[go_sem, ↓reduceIte,Nat.reduceEqDiff,Nat.reduceAdd,Nat.reduceSub,Nat.reduceLeDiff,reduceCtorEq,fo,lM]at a0 a1 iM
 clear dt
 obtain⟨aW,aG⟩:=aI0
 have H8:=pJ cnt (gq cnt c f y) k
 have CB:((List.range k).filter (gq cnt c f y)).length<=k:=Nat.le_trans (List.length_filter_le _ _) (by rw[List.length_range];exact Nat.le_refl _)
 by_cases hk:(k:Int)<(cnt:Int)
 ·have bK:∀{e:Env} {gg:Rows} {nx:Nat},(e 12=.int .i64 (IntKind.i64.wrap ((k:Int)+1)))->(oZ cnt c f y (k+1)/\Nd 282006003 ((List.range (k+1)).filter (gq cnt c f y)) (e 5) gg nx)->∃m0,m0<(cnt)-k/\∃k:Nat,m0=(cnt)-k/\k<=(cnt)/\e 12=.int .i64 (k:Int)/\(oZ cnt c f y k/\Nd 282006003 ((List.range k).filter (gq cnt c f y)) (e 5) gg nx):=fun x1 x2=>⟨_,ad,k+1,rfl,ad,(by rw[x1,aA ad]),x2⟩
  have eo:k<cnt:=ad
  (try((repeat(revert hN;revert N;apply Pn.out));refine wk (tw @a12 (tw @a0 (tw @a1 (tw @iM (tw @hk (tw @fo.eq_1 @lM)))))) ?_;(repeat(refine Pn.mk ?_;intro N hN))))
  refine .inr (bd _ _ _ _ _ (fun r σ1 hq=>?_) ((KX cnt DQ hn c f k y eo hy).x mixed (by rw[<-fo];exact hz _ k)))
  obtain⟨Gx,rfl⟩:=hq
  refine hN _ _ ?_
  clear hN N
  rcases Gx with⟨rfl,DT⟩|⟨p,rfl,hW⟩
  ·have hT:gq cnt c f y k=false:=C6 DT
   rw[hT]at H8
   rw[if_neg (by simp),List.append_nil]at H8
   (try((repeat(revert hN;revert N;apply Pn.out));refine wk (tw @a12 (tw @a0 (tw @a1 (tw @iM (tw @fo.eq_1 (tw @lM (tw @Bool.not_true @Bool.not_false))))))) ?_;(repeat(refine Pn.mk ?_;intro N hN))))
   exact bK (sd (tw @a12 (tw @a0 (tw @a1 (tw @iM (tw @fo.eq_1 @lM)))))) (by(try dsimp only);exact⟨fun u hu=>by
    by_cases IZ:u<k
    ·exact aW u IZ
    ·have:u=k:=ad
     subst this;exact .inr DT,by rw[H8];exact aG.frame (sd @Nat.zero_add) ad fun x hx _=>(by have h9:=dW hx;simp only[go_sem, ↓reduceIte,Nat.reduceEqDiff,Nat.reduceAdd,Nat.reduceSub,Nat.reduceLeDiff,reduceCtorEq,h9])⟩)
  ·have hT:gq cnt c f y k=true:=zI hW
   obtain⟨rs,rfl,-⟩:=hW.QA
   clear hW
   rw[hT]at H8
   rw[if_pos rfl]at H8
   have pj:((List.range (k+1)).filter (gq cnt c f y)).map eN=((List.range k).filter (gq cnt c f y)).map eN++[[.int .i64 (k:Int)]]:=by rw[H8,List.map_append];rfl
   have A6:((List.range (k+1)).filter (gq cnt c f y)).length=((List.range k).filter (gq cnt c f y)).length+1:=by rw[H8];simp
   have jI:oZ cnt c f y (k+1):=fun u hu=>by
    by_cases IZ:u<k
    ·exact aW u IZ
    ·have:u=k:=ad
     subst this;exact .inl hT
   generalize (List.range k).filter (gq cnt c f y)=M at aG pj A6 CB
   rcases aG with⟨hM,a5⟩|⟨u,a5,hug,CG,NB,I0⟩
   ·subst hM
    (try((repeat(revert hN;revert N;apply Pn.out));refine wk (tw @a12 (tw @a0 (tw @a1 (tw @iM (tw @a5 (tw @fo.eq_1 (tw @lM (tw @Bool.not_true @Bool.not_false)))))))) ?_;(repeat(refine Pn.mk ?_;intro N hN))))
    exact bK (sd (tw @a12 (tw @a0 (tw @a1 (tw @iM (tw @fo.eq_1 @lM)))))) (by(try dsimp only);exact⟨jI,.inr ⟨⟨282006003,st_a.next+1+1+1+1⟩,by rw[A6];simp only[go_sem, ↓reduceIte,Nat.reduceEqDiff,Nat.reduceAdd,Nat.reduceSub,Nat.reduceLeDiff,reduceCtorEq]<;>rfl,by rw[pj];simp only[go_sem, ↓reduceIte,Nat.reduceEqDiff,Nat.reduceAdd,Nat.reduceSub,Nat.reduceLeDiff,reduceCtorEq]<;>rfl,cE,by rw[A6];omega,rfl⟩⟩)
   ·have vu:=dW CG
    have wh:(M.map eN).length=M.length:=by simp
    have AM:M.length<=16777215:=ad
    (try((repeat(revert hN;revert N;apply Pn.out));refine wk (tw @a12 (tw @a0 (tw @a1 (tw @iM (tw @a5 (tw @hug (tw @vu (tw @wh (tw @AM (tw @fo.eq_1 (tw @lM (tw @Bool.not_true @Bool.not_false)))))))))))) ?_;(repeat(refine Pn.mk ?_;intro N hN))))
    exact bK (sd (tw @a12 (tw @a0 (tw @a1 (tw @iM (tw @fo.eq_1 @lM)))))) (by(try dsimp only);exact⟨jI,.inr ⟨⟨282006003,st_a.next+1+1+1+1⟩,by rw[A6];simp only[go_sem, ↓reduceIte,Nat.reduceEqDiff,Nat.reduceAdd,Nat.reduceSub,Nat.reduceLeDiff,reduceCtorEq]<;>rfl,by rw[pj];simp only[go_sem, ↓reduceIte,Nat.reduceEqDiff,Nat.reduceAdd,Nat.reduceSub,Nat.reduceLeDiff,reduceCtorEq]<;>rfl,cE,by rw[A6];omega,rfl⟩⟩)
 ·have jz:k=cnt:=ad
  subst jz
  have iP:y∈(List.range k).filter (gq k c f y):=List.mem_filter.2 ⟨List.mem_range.2 hy,vk hy⟩
  (try((repeat(revert hN;revert N;apply Pn.out));refine wk (tw @a12 (tw @a0 (tw @a1 (tw @iM (tw @hk (tw @fo.eq_1 @lM)))))) ?_;(repeat(refine Pn.mk ?_;intro N hN))))
  rcases aG with⟨hM,a5⟩|⟨u,a5,hug,CG,NB,I0⟩
  ·rw[hM]at iP;cases iP
  ·refine⟨[.own u 0 ((List.range k).filter (gq k c f y)).length],sd @a5,.sl (((List.range k).filter (gq k c f y)).map eN),?_,rfl,aW⟩
   simp only[eH]
   exact fa hug rfl fun b=>IC _ 4 b
theorem xN (S:Nat->Bool):∀bs:List PB,(∀b∈bs,0<=b.s/\b.s<=4)->fO S bs<=4*(bs.length:Int)
 |[],_=>by simp[fO]
 |b::bs,h=>by
  have ih:=xN S bs fun x hx=>h x (by simp[hx])
  have:=h b (by simp)
  unfold fO at ih ⊢
  simp only[List.map_cons,List.sum_cons,List.length_cons]
  split<;>omega
theorem DG (cnt:Nat) (hn:cnt<=1048576) (bs:List PB) (hb:∀b∈bs,b.a<cnt/\b.b<cnt) (ee:∀b∈bs,0<=b.s/\b.s<=4) (re:bs.length<=1048576) (y:Nat) (hy:y<cnt) (Sm:0<y) (σ:ar):
  Call Tryz.prog 281 [.int .i64 cnt,.sl (bs.map aZ),.int .i64 0,.int .i64 y] σ fun r σ'=>∃X o1 o2 R1 R2,∃(k:Nat) (f:Nat->Nat->Int),r=.im [.ptr X 0 0,.int .i64 k]/\me σ'.get X o1 o2 R1 R2 cnt (eM bs) f/\kA cnt (eM bs) f 0 y k/\r9 cnt (eM bs) f 0 y:=by
 refine gj eL rfl fun hl=>?_
 clear hl
 have nR:=wT bs (fun _ _=>0) (fun b h=>(ee b h).1) (fun _ _=>Int.le_refl _)
 have hle:=room_le bs (fun _ _=>0) 0 (fun b h=>(ee b h).2) (fun _ _=>Int.le_refl _) (Int.le_refl _)
 have fq:bs.foldl lW (fun _ _=>0)=eM bs:=rfl
 rw[fq]at nR hle
 (try((repeat(revert hN;revert N;apply Pn.out));refine wk @Nat.zero_add ?_;(repeat(refine Pn.mk ?_;intro N hN))))
 refine .inr (bd _ _ _ _ _ (fun r σ1 hq=>?_) (zf cnt ad hn bs hb ee re _))
 obtain⟨X,o1,o2,R1,R2,rfl,I,LW,hM,_⟩:=hq
 refine hN _ _ ?_
 clear hN N
 (try((repeat(revert hN;revert N;apply Pn.out));refine wk @Nat.zero_add ?_;(repeat(refine Pn.mk ?_;intro N hN))))
 have hsd:=ME cnt ad hn (eM bs) (fun u v _ _=>⟨nR u v,by have:=hle u v;omega⟩) 0 y ad hy ad 1099511627776 ad X o1 o2 R1 R2 σ1.next I
 refine .inr (bd _ _ _ _ _ (fun r σ2 hq=>?_) (hsd _ hM cE))
 obtain⟨k,f,rfl,hF,hM2,hS,oJ⟩:=hq
 refine hN _ _ ?_
 clear hN N
 have DT:r9 cnt (eM bs) f 0 y:=by
  rcases hS with h|h
  ·exact h
  ·exfalso
   have h1:=hF.bound (S:=fun v=>decide (v=0)) (by simp) (decide_eq_false ad)
   rw[sr hb]at h1
   have h2:=xN (fun v=>decide (v=0)) bs ee
   omega
 (try((repeat(revert hN;revert N;apply Pn.out));refine wk @Nat.zero_add ?_;(repeat(refine Pn.mk ?_;intro N hN))))
 exact gI (.inl rfl) (vs:=[.ptr X 0 0,.int .i64 (k:Int)]) (sd @Nat.zero_add) ⟨X,o1,o2,R1,R2,k,f,rfl,hM2,hF,DT⟩
theorem Fa (cnt:Nat) (h2:2<=cnt) (hn:cnt<=1048576) (bs:List PB) (hb:∀b∈bs,b.a<cnt/\b.b<cnt) (ee:∀b∈bs,0<=b.s/\b.s<=4) (re:bs.length<=1048576):
  ku Tryz.prog 199 [.int .i64 cnt,.sl (bs.map aZ)] fun r=>∃dR l,r=.im [.int .i64 dR,.sl (l.map eN)]/\(∀t:Int,t<=dR↔oi cnt bs t)/\nY cnt bs dR l:=by
 refine ku.body eL rfl fun hl σ=>?_
 clear hl
 (try((repeat(revert hN;revert N;apply Pn.out));refine wk @Nat.zero_add ?_;(repeat(refine Pn.mk ?_;intro N hN))))
 refine bp (fun m env st=>∃(k:Nat) (dR:Int) (l:List Nat) (p:AV),m=cnt-k/\1<=k/\k<=cnt/\env 8=.int .i64 (k:Int)/\env 6=.int .i64 dR/\env 7=p/\(0<=dR->p=.sl (l.map eN))/\l.length<=cnt/\(0<=dR->nY cnt bs dR l)/\lg bs cnt dR k) (cnt-1) ⟨1,-1,[],.cK,rfl,ad,ad,by(simp only[go_sem, ↓reduceIte,Nat.reduceEqDiff,Nat.reduceAdd,Nat.reduceSub,Nat.reduceLeDiff,reduceCtorEq])<;>rfl,by(simp only[go_sem, ↓reduceIte,Nat.reduceEqDiff,Nat.reduceAdd,Nat.reduceSub,Nat.reduceLeDiff,reduceCtorEq])<;>rfl,by(simp only[go_sem, ↓reduceIte,Nat.reduceEqDiff,Nat.reduceAdd,Nat.reduceSub,Nat.reduceLeDiff,reduceCtorEq])<;>rfl,fun h=>absurd h ad,by simp,fun h=>absurd h ad,.inl ⟨rfl,rfl⟩⟩ ?_
 rintro m env_b st_b ⟨k,dR,l,p,rfl,rD,rR,b8,b6,b7,IW,hl,hSd,hB⟩ bfr
 have b0:=bfr 0 (by kernel_rfl)
 have b1:=bfr 1 (by kernel_rfl)
 simp only[go_sem, ↓reduceIte,Nat.reduceEqDiff,Nat.reduceAdd,Nat.reduceSub,Nat.reduceLeDiff,reduceCtorEq]at b0 b1
 clear bfr
 by_cases hk:(k:Int)<(cnt:Int)
 ·have eo:k<cnt:=ad
  (try((repeat(revert hN;revert N;apply Pn.out));refine wk (tw @b0 (tw @b1 (tw @b6 (tw @b7 (tw @b8 @hk))))) ?_;(repeat(refine Pn.mk ?_;intro N hN))))
  refine .inr (bd _ _ _ _ _ (fun r σ1 hq=>?_) (DG cnt hn bs hb ee re k eo ad _))
  obtain⟨X,o1,o2,R1,R2,val,f,rfl,hM,hF,DT⟩:=hq
  obtain⟨g1,x1⟩:=σ1
  (try dsimp only at hM)
  refine hN _ _ ?_
  clear hN N
  have tV:∀S:Nat->Bool,S 0=true->S k=false->(val:Int)<=fO S bs:=fun S h0 h1=>by rw[<-sr hb];exact hF.bound h0 h1
  have hw:IntKind.i64.wrap ((k:Int)+1)=((k+1:Nat):Int):=aA ad
  have Kw:=y5 cnt ad hn (eM bs) f k eo
  have yM:∀n,cR (dG (ar.get ⟨g1,n⟩)) 6 [.ptr X 0 0,.int .i64 (k:Int)]=some [.dI (fo cnt (eM bs) f),.int .i64 k]:=fun n=>by simp only[ab,ae,hM.fz,az,Option.map_some]
  have HM:oZ cnt (eM bs) f k cnt->(∀z,1<=z->z<k->∀S:Nat->Bool,S 0=true->S z=false->(val:Int)<=fO S bs)->nY cnt bs val ((List.range cnt).filter (gq cnt (eM bs) f k))/\lg bs cnt val (k+1):=fun hW h=>by
   have Np:=E9 hb eo hF DT hW
   refine⟨Np,.inr ⟨ad,fun z uO jw S' h0 h1=>?_,?_⟩⟩
   ·by_cases oU:z=k
    ·subst oU;exact tV S' h0 h1
    ·exact h z uO ad S' h0 h1
   ·obtain⟨S,s1,s2,s3,_⟩:=Np
    exact⟨S,s1,s2,s3⟩
  have xo:((List.range cnt).filter (gq cnt (eM bs) f k)).length<=cnt:=Nat.le_trans (List.length_filter_le _ _) (by rw[List.length_range];exact Nat.le_refl _)
  by_cases fW:dR<0
  ·have tG:k=1:=by
    rcases hB with⟨h,_⟩|⟨h,_⟩
    ·exact h
    ·omega
   have nT:¬0<=dR:=ad
   have ND:¬(val:Int)<dR:=ad
   (try((repeat(revert hN;revert N;apply Pn.out));refine wk (tw @b0 (tw @b1 (tw @b6 (tw @b7 (tw @b8 @nT))))) ?_;(repeat(refine Pn.mk ?_;intro N hN))))
   refine .inr (bd _ _ _ _ _ (fun r σ2 hq=>?_) (Kw.x mixed (yM _)))
   obtain⟨⟨rfl,hW⟩,rfl⟩:=hq
   refine hN _ _ ?_
   clear hN N
   obtain⟨u1,u2⟩:=HM hW fun z h1 h2=>by omega
   generalize (List.range cnt).filter (gq cnt (eM bs) f k)=l' at xo u1 ⊢
   (try((repeat(revert hN;revert N;apply Pn.out));refine wk (tw @b0 (tw @b1 (tw @b6 (tw @b7 (tw @b8 (tw @nT (tw @ND (tw @fW @hw)))))))) ?_;(repeat(refine Pn.mk ?_;intro N hN))))
   refine⟨_,?_,k+1,val,l',.sl (l'.map eN),rfl,ad,ad,sd (tw @b8 @hw),sd @Nat.zero_add,sd @Nat.zero_add,fun _=>rfl,xo,fun _=>u1,u2⟩
   omega
  ·have tG:(∀z,1<=z->z<k->∀S:Nat->Bool,S 0=true->S z=false->dR<=fO S bs)/\∃S:Nat->Bool,S 0=true/\(∃z,z<cnt/\S z=false)/\dR=fO S bs:=by
    rcases hB with⟨_,h⟩|⟨_,h⟩
    ·omega
    ·exact h
   have nT:0<=dR:=ad
   have hp:=IW nT
   subst hp
   have qv:dR<=(val:Int)->lg bs cnt dR (k+1):=fun ND=>.inr ⟨ad,fun z h1 h2 S' h3 h4=>by
    by_cases oU:z=k
    ·subst oU;have:=tV S' h3 h4;omega
    ·exact tG.1 z h1 ad S' h3 h4,tG.2⟩
   by_cases wc:dR<(val:Int)
   ·(try((repeat(revert hN;revert N;apply Pn.out));refine wk (tw @b0 (tw @b1 (tw @b6 (tw @b7 (tw @b8 (tw @nT (tw @wc @hw))))))) ?_;(repeat(refine Pn.mk ?_;intro N hN))))
    refine⟨_,?_,k+1,dR,l,.sl (l.map eN),rfl,ad,ad,sd (tw @b8 @hw),sd @b6,sd @b7,fun _=>rfl,hl,hSd,qv ad⟩
    omega
   ·(try((repeat(revert hN;revert N;apply Pn.out));refine wk (tw @b0 (tw @b1 (tw @b6 (tw @b7 (tw @b8 (tw @nT @wc)))))) ?_;(repeat(refine Pn.mk ?_;intro N hN))))
    refine .inr (bd _ _ _ _ _ (fun r σ2 hq=>?_) (Kw.x mixed (yM _)))
    obtain⟨⟨rfl,hW⟩,rfl⟩:=hq
    refine hN _ _ ?_
    clear hN N
    obtain⟨u1,u2⟩:=HM hW fun z h1 h2 S' h3 h4=>by have:=tG.1 z h1 h2 S' h3 h4;omega
    generalize (List.range cnt).filter (gq cnt (eM bs) f k)=l' at xo u1 ⊢
    have m1:(l'.map eN).length=l'.length:=by simp
    have m2:(l.map eN).length=l.length:=by simp
    by_cases ea:(val:Int)<dR
    ·(try((repeat(revert hN;revert N;apply Pn.out));refine wk (tw @b0 (tw @b1 (tw @b6 (tw @b7 (tw @b8 (tw @nT (tw @wc (tw @ea @hw)))))))) ?_;(repeat(refine Pn.mk ?_;intro N hN))))
     refine⟨_,?_,k+1,val,l',.sl (l'.map eN),rfl,ad,ad,sd (tw @b8 @hw),sd @Nat.zero_add,sd @Nat.zero_add,fun _=>rfl,xo,fun _=>u1,u2⟩
     omega
    ·by_cases sJ:(l'.length:Int)<(l.length:Int)
     ·(try((repeat(revert hN;revert N;apply Pn.out));refine wk (tw @b0 (tw @b1 (tw @b6 (tw @b7 (tw @b8 (tw @nT (tw @wc (tw @ea (tw @fW (tw @m1 (tw @m2 (tw @sJ @hw)))))))))))) ?_;(repeat(refine Pn.mk ?_;intro N hN))))
      refine⟨_,?_,k+1,val,l',.sl (l'.map eN),rfl,ad,ad,sd (tw @b8 @hw),sd @Nat.zero_add,sd @Nat.zero_add,fun _=>rfl,xo,fun _=>u1,u2⟩
      omega
     ·by_cases hle:(l'.length:Int)=(l.length:Int)
      ·have hd:decide ((l'.length:Int)=(l.length:Int))=true:=decide_eq_true hle
       have jg:decide (l'.length=l.length)=true:=decide_eq_true ad
       have hc:=zR l' l ad ad
       by_cases Kk:fS l' l<0
       ·(repeat(first|((repeat(revert hN;revert N;apply Pn.out));refine wk (tw @b0 (tw @b1 (tw @b6 (tw @b7 (tw @b8 (tw @nT (tw @wc (tw @ea (tw @fW (tw @m1 (tw @m2 (tw @sJ (tw @hd (tw @jg (tw @Kk @hw))))))))))))))) ?_;(repeat(refine Pn.mk ?_;intro N hN)))|((try apply Or.inl);refine⟨_,ak.x (hc) (sd (tw @b0 (tw @b1 (tw @b6 (tw @b7 (tw @b8 (tw @nT (tw @wc (tw @ea (tw @fW (tw @m1 (tw @m2 (tw @sJ (tw @hd (tw @jg (tw @Kk @hw)))))))))))))))),?_⟩;refine hN _ _ ?_;clear hN N)))
        refine⟨_,?_,k+1,val,l',.sl (l'.map eN),rfl,ad,ad,sd (tw @b8 @hw),sd @Nat.zero_add,sd @Nat.zero_add,fun _=>rfl,xo,fun _=>u1,u2⟩
        omega
       ·(repeat(first|((repeat(revert hN;revert N;apply Pn.out));refine wk (tw @b0 (tw @b1 (tw @b6 (tw @b7 (tw @b8 (tw @nT (tw @wc (tw @ea (tw @fW (tw @m1 (tw @m2 (tw @sJ (tw @hd (tw @jg (tw @Kk @hw))))))))))))))) ?_;(repeat(refine Pn.mk ?_;intro N hN)))|((try apply Or.inl);refine⟨_,ak.x (hc) (sd (tw @b0 (tw @b1 (tw @b6 (tw @b7 (tw @b8 (tw @nT (tw @wc (tw @ea (tw @fW (tw @m1 (tw @m2 (tw @sJ (tw @hd (tw @jg (tw @Kk @hw)))))))))))))))),?_⟩;refine hN _ _ ?_;clear hN N)))
        refine⟨_,?_,k+1,dR,l,.sl (l.map eN),rfl,ad,ad,sd (tw @b8 @hw),sd @b6,sd @b7,fun _=>rfl,hl,hSd,qv ad⟩
        omega
      ·have hd:decide ((l'.length:Int)=(l.length:Int))=false:=decide_eq_false hle
       have jg:decide (l'.length=l.length)=false:=decide_eq_false ad
       (try((repeat(revert hN;revert N;apply Pn.out));refine wk (tw @b0 (tw @b1 (tw @b6 (tw @b7 (tw @b8 (tw @nT (tw @wc (tw @ea (tw @fW (tw @m1 (tw @m2 (tw @sJ (tw @hd (tw @jg @hw)))))))))))))) ?_;(repeat(refine Pn.mk ?_;intro N hN))))
       refine⟨_,?_,k+1,dR,l,.sl (l.map eN),rfl,ad,ad,sd (tw @b8 @hw),sd @b6,sd @b7,fun _=>rfl,hl,hSd,qv ad⟩
       omega
 ·have jz:k=cnt:=ad
  have nT:0<=dR:=by
   rcases hB with⟨h3,_⟩|⟨h3,_⟩
   ·omega
   ·exact h3
  have hp:=IW nT
  subst hp
  (try((repeat(revert hN;revert N;apply Pn.out));refine wk (tw @b0 (tw @b1 (tw @b6 (tw @b7 (tw @b8 @hk))))) ?_;(repeat(refine Pn.mk ?_;intro N hN))))
  exact⟨[.int .i64 dR,.sl (l.map eN)],sd @Nat.zero_add,.im [.int .i64 dR,.sl (l.map eN)],by simp only[eH,aX,ab,ae,bu,az,Option.map_some],dR,l,rfl,lg.done h2 (jz▸hB),hSd nT⟩
end Go.Proofs.YtphenfakmdknlaaGreat.V

namespace Go.Proofs.YtphenfakmdknlaaGreat.V
open Go.RowKit Go.Shelf
attribute [local go_sem] Oper.semAt_some
structure nN (W:World) (v:Value) (l:List ai):Prop where
 sl:∃A c,v=.slice A l.length c/\(l.length<=c/\c<=maxLen)/\(l=[]∨∃b o,A=some ⟨b,o,none⟩/\∀i,i<l.length->W.cell? ⟨b,o+(i*3+0),none⟩=some (.int .i64 (bH l i).cG.fZ)/\W.cell? ⟨b,o+(i*3+1),none⟩=some (.int .i64 (bH l i).cG.fC)/\W.cell? ⟨b,o+(i*3+2),none⟩=some (.int .i64 (bH l i).bU))
structure Fu (K:World->World->Prop) (v:Value) (l:List ai):Prop where
 refl:∀W,K W W
 trans:∀{A B C:World},K A B->K B C->K A C
 of:∀{W W':World},Below W.heap.size W W'->K W W'
 size:∀{W W':World},K W W'->W.heap.size<=W'.heap.size
 typed:∀{W W':World},K W W'->∀(b:Nat) (cells:Array Value) (T:TypeId) (fr:Nat×Nat),W.heap[b]? =some (Obj.cells cells T fr)->T≠105->T≠212->W'.heap[b]? =W.heap[b]?
 pl:∀{W W':World},K W W'->nN W v l->nN W' v l
theorem rK {W:World} {b x:Nat} {v:Value} (h:W.cell? ⟨b,x,none⟩=some v):b<W.heap.size:=by
 rcases Nat.lt_or_ge b W.heap.size with h1|h1
 ·exact h1
 ·simp[World.cell?,Array.getElem?_eq_none h1]at h
theorem nN.below {W W':World} {v:Value} {l:List ai} (h:nN W v l) (k:Below W.heap.size W W'):nN W' v l:=by
 obtain⟨A,c,rfl,hm,hc⟩:=h.sl
 refine⟨A,c,rfl,hm,?_⟩
 rcases hc with h0|⟨b,o,rfl,iV⟩
 ·exact .inl h0
 ·refine .inr ⟨b,o,rfl,fun i hi=>?_⟩
  obtain⟨h1,h2,h3⟩:=iV i hi
  have hb:=rK h1
  exact⟨(k.cell (p:=⟨b,_,none⟩) hb).trans h1,(k.cell (p:=⟨b,_,none⟩) hb).trans h2,(k.cell (p:=⟨b,_,none⟩) hb).trans h3⟩
theorem nN.ez {P:Program} {W:World} {v:Value} {l:List ai} (h:nN W v l):jk P W (fun b=>b<W.heap.size) (.sl (l.map ah)) v:=by
 obtain⟨A,c,rfl,hm,hc⟩:=h.sl
 rcases hc with rfl|⟨b,o,rfl,iV⟩
 ·exact .zP A c (by simpa using hm.2)
 by_cases Qm:l=[]
 ·subst Qm;exact .zP _ c (by simpa using hm.2)
 ·have jo:0<l.length:=List.length_pos_iff.2 Qm
  have hb:=rK (iV 0 jo).1
  refine .sl (l.map ah) b o l.length c 3 (fun i j=>if j=0 then .int .i64 (bH l i).cG.fZ else if j=1 then .int .i64 (bH l i).cG.fC else .int .i64 (bH l i).bU) (by simp) hm.1 hm.2 hb (fun cs dx=>?_) (fun cs dx a ha=>?_) (fun i j hi hj=>?_) (fun i j cs a hi hj=>?_)
  ·obtain⟨x,_,rfl⟩:=List.mem_map.1 dx;rfl
  ·obtain⟨x,_,rfl⟩:=List.mem_map.1 dx
   simp[ah]at ha
   rcases ha with rfl|rfl|rfl<;>rfl
  ·obtain⟨h1,h2,h3⟩:=iV i hi
   match j,hj with
   |0,_=>exact h1
   |1,_=>exact h2
   |2,_=>exact h3
   |j+3,hj=>omega
  ·have rQ:i<l.length:=by have:=(List.getElem?_eq_some_iff.1 hi).1;simpa using this
   rw[gy rQ]at hi
   injection hi with hi
   subst hi
   match j,hj with
   |0,hj=>simp[ah]at hj;subst hj;exact .int _ _
   |1,hj=>simp[ah]at hj;subst hj;exact .int _ _
   |2,hj=>simp[ah]at hj;subst hj;exact .int _ _
   |j+3,hj=>simp[ah]at hj
theorem xM {P:Program} (hm:P.follows .mixedOrders=true) {f:Nat} {args:List AV} {vs:Array Value} {w:World} {r:AV} (h:ak P f args r) (hr:∀g r0,fu g 6 r0=some r->r0=r) (hA:eP P w (fun b=>b<w.heap.size) (fun _=>none) args vs):
  Calls P f vs w fun e w'=>∃D ι u,e=.returned u/\cQ P w' D ι r u/\Below w.heap.size w w':=by
 have hs:=gw hm (h 0) w.heap.size (fun b=>b<w.heap.size) (fun _=>none) w vs ⟨Nat.le_refl _,fun _ h=>h,fun id r h=>(by cases h),fun id jW r r' B B' h=>(by cases h)⟩ (fun id h=>absurd rfl h) hA
 refine hs.mono ?_
 rintro e w' ⟨r0,g',n',D',ι',u,rfl,⟨r',hz,rfl⟩,ee,hsim,_,_,km⟩
 have:=hr _ _ hz
 subst this
 exact⟨D',ι',u,rfl,km,ee.below⟩
theorem mG {g:Rows} {n:Nat} {a:AV} {k:IntKind} {m:Int} (h:fu g (n+1) a=some (.int k m)):a=.int k m:=by
 cases a<;>rw[fu]at h<;>simp_all
 all_goals (repeat' (split at h))<;>simp_all
theorem AI {g:Rows} {a:AV} {x y:Int} (h:fu g 6 a=some (.agg [.int .i64 x,.int .i64 y])):a=.agg [.int .i64 x,.int .i64 y]:=by
 cases a with
 |agg cs=>
  rw[vT]at h
  simp only[Option.map_eq_some_iff,AV.agg.injEq,exists_eq_right]at h
  match cs,h with
  |[],h=>rw[dC]at h;simp at h
  |[a],h=>
   rw[cN,dC]at h
   cases ha:fu g 5 a<;>simp[ha]at h
  |[a,b],h=>
   rw[cN,cN,dC]at h
   cases ha:fu g 5 a<;>cases hb:fu g 5 b<;>simp[ha,hb]at h
   obtain⟨rfl,rfl⟩:=h
   rw[mG ha,mG hb]
  |a::b::c::r,h=>
   rw[cN,cN,cN]at h
   cases ha:fu g 5 a<;>cases hb:fu g 5 b<;>cases hc:fu g 5 c<;>cases hd:dM g 5 r<;>simp[ha,hb,hc,hd]at h
 |_=>rw[fu]at h<;>simp_all<;>(repeat' (split at h))<;>simp_all
theorem BJ (W:World) (p:br) (d:Int) (hd:ig d 0 3=true) (hx:iB p.fZ) (hy:iB p.fC):Calls Tryz.prog 161 #[.agg #[.int .i64 p.fZ,.int .i64 p.fC],.int .i64 d] W fun e W'=>e=.returned (.agg #[.int .i64 (ej p d).fZ,.int .i64 (ej p d).fC])/\Below W.heap.size W W':=by
 refine(xM mixed (MI p d hd hx hy) (fun g r0 h=>AI h) ?_:Calls _ _ _ _ _).mono ?_
 ·exact j7 (vs:= #[.int .i64 d]) (.agg _ _ (fun j=>if j=0 then .int .i64 p.fZ else .int .i64 p.fC) rfl (fun a ha=>by simp[aq]at ha;rcases ha with rfl|rfl<;>rfl) (fun j hj=>by match j,hj with|0,_=>rfl|1,_=>rfl|j+2,hj=>simp[aq]at hj;omega) (fun j a ha=>by match j,ha with|0,ha=>simp[aq]at ha;subst ha;exact .int _ _|1,ha=>simp[aq]at ha;subst ha;exact .int _ _|j+2,ha=>simp[aq]at ha)) (j7 (vs:= #[]) (.int _ _) s9)
 ·rintro e W' ⟨D,ι,u,rfl,hr,hB⟩
  refine⟨?_,hB⟩
  obtain⟨vs,f,rfl,eU,_,h1,h2⟩:=gV hr
  have v0:=h1 0 (by simp[aq])
  have v1:=h1 1 (by simp[aq])
  rw[dz (h2 0 _ rfl)]at v0
  rw[dz (h2 1 _ rfl)]at v1
  obtain⟨vl⟩:=vs
  match vl,eU with
  |[a,b],_=>
   simp at v0 v1
   rw[v0,v1]
theorem ue (W:World) (l:List ai) (v:Value) (hP:nN W v l) (p:br) (hR:mi l) (Og:l.length<=1048576):Calls Tryz.prog 250 #[.agg #[v],.agg #[.int .i64 p.fZ,.int .i64 p.fC]] W fun e W'=>e=.returned (.int .i64 (ew l p))/\Below W.heap.size W W':=by
 refine(xM mixed (ED l p hR Og) (fun g r0 h=>mG h) ?_:Calls _ _ _ _ _).mono ?_
 ·exact j7 (vs:= #[.agg #[.int .i64 p.fZ,.int .i64 p.fC]]) (.agg _ _ (fun _=>v) rfl (fun a ha=>by simp at ha;rw[ha];rfl) (fun j hj=>by match j,hj with|0,_=>rfl|j+1,hj=>simp at hj) (fun j a ha=>by match j,ha with|0,ha=>simp at ha;subst ha;exact hP.ez|j+1,ha=>simp at ha)) (j7 (vs:= #[]) (.agg _ _ (fun j=>if j=0 then .int .i64 p.fZ else .int .i64 p.fC) rfl (fun a ha=>by simp[aq]at ha;rcases ha with rfl|rfl<;>rfl) (fun j hj=>by match j,hj with|0,_=>rfl|1,_=>rfl|j+2,hj=>simp[aq]at hj;omega) (fun j a ha=>by match j,ha with|0,ha=>simp[aq]at ha;subst ha;exact .int _ _|1,ha=>simp[aq]at ha;subst ha;exact .int _ _|j+2,ha=>simp[aq]at ha)) s9)
 ·rintro e W' ⟨D,ι,u,rfl,hr,hB⟩
  exact⟨by rw[dz hr],hB⟩
theorem grown_of {W W':World} (h:Below W.heap.size W W'):W.grownBy W' none:=⟨h.os,h.tape,h.output,h.size,fun k hk _=>h.block k hk⟩
def zd (l:List ai) (i:Nat) (d:Int):List (Nat×Nat×Int):=if 0<=ew l (ej (bH l i).cG d)then[(i,(ew l (ej (bH l i).cG d)).toNat,d)]else[]
def j0 (l:List ai) (i m:Nat):List (Nat×Nat×Int):=(List.range m).flatMap fun j:Nat=>zd l i (1-(j:Int))
def kp (l:List ai) (n:Nat):List (Nat×Nat×Int):=(List.range n).flatMap fun i=>j0 l i 2
theorem k7 (l:List ai) (n:Nat):kp l (n+1)=kp l n++j0 l n 2:=by simp[kp,List.range_succ]
theorem lD (l:List ai) (i m:Nat):j0 l i (m+1)=j0 l i m++zd l i (1-(m:Int)):=by simp[j0,List.range_succ]
theorem Mt (l:List ai) {k m:Nat} (hk:k<l.length) (hm:m<=2):kp l k++j0 l k m <+:kp l l.length:=by
 have h1:∀d,kp l k <+:kp l (k+d):=fun d=>by
  induction d with
  |zero=>exact List.prefix_refl _
  |succ d ih=>rw[<-Nat.add_assoc,k7 l (k+d)];exact ih.trans (List.prefix_append _ _)
 have h2:∀d,kp l (k+1) <+:kp l (k+1+d):=fun d=>by
  induction d with
  |zero=>exact List.prefix_refl _
  |succ d ih=>rw[<-Nat.add_assoc,k7 l (k+1+d)];exact ih.trans (List.prefix_append _ _)
 have h3:=h2 (l.length-(k+1))
 rw[show k+1+(l.length-(k+1))=l.length by omega,k7]at h3
 refine List.IsPrefix.trans ?_ h3
 have h4:j0 l k m <+:j0 l k 2:=by
  have:m=0∨m=1∨m=2:=ad
  rcases this with rfl|rfl|rfl
  ·exact List.nil_prefix
  ·rw[lD l k 1];exact List.prefix_append _ _
  ·exact List.prefix_refl _
 exact(List.prefix_append_right_inj _).2 h4
def NM (l:List ai) (x:Nat×Nat×Int):Prop:=x.1<l.length/\x.2.1<l.length/\(0<=x.2.2/\x.2.2<=1)
def Ci (x:Nat×Nat×Int):Array Value:= #[.agg #[.int .i64 (x.1:Int),.int .i64 (x.2.1:Int)],.int .i64 x.2.2]
theorem I8 (l:List ai) (p:br) (h:0<l.length:=by omega):ew l p<(l.length:Int):=by
 unfold ew
 split<;>omega
theorem Pw (l:List ai) (hA:jP l) (q Ba:Nat) (vS:Value) (K:World->World->Prop) (kl:Fu K vS l) (J Jx:List (Nat×Nat×Int)->World->Prop) (n:Nat) (hn:1<=n)
  (hY:∀pre x W,J pre W->pre.length<(kp l l.length).length->NM l x->YieldAt Fence.wide (n-1) Tryz.prog q (Ci x) W fun e W'=>
   (e=.returned (.bool true)/\J (pre++[x]) W'/\K W W')∨(e=.returned (.bool false)/\Jx (pre++[x]) W'))
  (W:World) (hJ:AbidesFrom W.heap.size J) (LG:W.heap[Ba]? =some (.cells #[vS] 41 (0,0))) (hP:nN W vS l) (h0:J [] W):
  CallsIn Fence.wide n Tryz.prog 249 #[.func (.yield q) #[] #[],.pointer (some ⟨Ba,0,none⟩)] W fun e W'=>(∃v,e=.returned v)/\
   ((∃ys,ys=kp l l.length/\J ys W')∨(∃pre,pre <+:kp l l.length/\Jx pre W')):=by
 obtain⟨A,cp,rfl,_,_⟩:=hP.sl
 refine callsIn_of_wp Tryz.func249 rfl trivial ?_ rfl
 simp only[Tryz.ntmps249,List.size_toArray,List.length_cons,List.length_nil,Nat.reduceAdd,Nat.reduceSub,Array.replicate_succ,Array.replicate_zero,List.push_toArray,List.append_toArray,List.nil_append,List.cons_append]
 have jF:W.cell? ⟨Ba,0,none⟩=some (.slice A l.length cp):=by simp[World.cell?,LG]
 gi_wp2
 gi_loopw [11] (fun i wr=>∃k:Nat,k<=l.length/\i=.int .i64 k/\J (kp l k) wr/\K W wr)
  (fun i _=>l.length-(intOf i).toNat)
 case atStart=>exact⟨0,Nat.zero_le _,rfl,h0,kl.refl _⟩
 case round=>
  obtain⟨k,hk,rfl,hJs,hKt⟩:=hrel
  by_cases ea:k<l.length
  ·have dx:∃b o,A=some ⟨b,o,none⟩/\wr.cell? ⟨b,o+k*3,none⟩=some (.int .i64 (bH l k).cG.fZ)/\wr.cell? ⟨b,o+k*3+1,none⟩=some (.int .i64 (bH l k).cG.fC)/\wr.cell? ⟨b,o+k*3+2,none⟩=some (.int .i64 (bH l k).bU):=by
    obtain⟨A',c',hv,_,hc⟩:=(kl.pl hKt hP).sl
    cases hv
    rcases hc with rfl|⟨b,o,rfl,iV⟩
    ·simp at ea
    ·obtain⟨h1,h2,h3⟩:=iV k ea
     exact⟨b,o,rfl,by simpa using h1,by rw[Nat.add_assoc];exact h2,by rw[Nat.add_assoc];exact h3⟩
   obtain⟨b,o,rfl,hx,hy',ht⟩:=dx
   gi_wp2
   obtain⟨W2,Ot⟩:∃W2,(wr.alloc (.cells #[.int .i64 (bH l k).cG.fZ,.int .i64 (bH l k).cG.fC,.int .i64 (bH l k).bU] 74)).alloc (.cells #[.int .i64 1,.int .i64 0] 2)=W2:=⟨_,rfl⟩
   have nQ:Below wr.heap.size wr W2:=by rw[<-Ot];exact((Below.refl _ wr).alloc (Nat.le_refl _) _).alloc (by simp) _
   have Q6:W2.heap[wr.heap.size]? =some (.cells #[.int .i64 (bH l k).cG.fZ,.int .i64 (bH l k).cG.fC,.int .i64 (bH l k).bU] 74 (0,0)):=by
    rw[<-Ot,Below.heap_alloc _ _ _ (by simp)];exact World.alloc_heap_new _ _
   have Q5:W2.heap[wr.heap.size+1]? =some (.cells #[.int .i64 1,.int .i64 0] 2 (0,0)):=by
    have:=World.alloc_heap_new (wr.alloc (.cells #[.int .i64 (bH l k).cG.fZ,.int .i64 (bH l k).cG.fC,.int .i64 (bH l k).bU] 74)) (.cells #[.int .i64 1,.int .i64 0] 2)
    rw[World.size_alloc]at this
    rw[<-Ot];exact this
   have Oi:K W W2:=kl.trans hKt (kl.of nQ)
   have hJ2:J (kp l k++j0 l k 0) W2:=by
    have:=hJ _ _ _ none hJs (grown_of nQ) (fun r h=>by cases h)
    simpa[j0]using this
   rw[Ot]
   clear Ot
   generalize wr=w1 at *
   gi_loopw [18] (fun j wr=>∃m:Nat,m<=2/\j=.int .i64 m/\J (kp l k++j0 l k m) wr/\K W2 wr)
    (fun j _=>2-(intOf j).toNat)
   case atStart=>exact⟨0,ad,rfl,hJ2,kl.refl _⟩
   case round=>
    obtain⟨m,hm,rfl,hJm,Kh⟩:=hrel
    have hm0:m=0∨m=1∨m=2:=ad
    by_cases Ky:m<2
    ·have hkd:=kl.typed Kh _ _ _ _ Q5 (by decide) (by decide)
     have H5:=kl.typed Kh _ _ _ _ Q6 (by decide) (by decide)
     have hka:=kl.typed (kl.trans Oi Kh) _ _ _ _ LG (by decide) (by decide)
     have cd:wr.cell? ⟨w1.heap.size+1,m,none⟩=some (.int .i64 (1-(m:Int))):=by
      rw[World.cell?_of_block hkd]
      rcases hm0 with rfl|rfl|rfl
      ·simp[World.cell?,Q5]
      ·simp[World.cell?,Q5]
      ·omega
     have ct0:wr.cell? ⟨w1.heap.size,0,none⟩=some (.int .i64 (bH l k).cG.fZ):=by rw[World.cell?_of_block H5];simp[World.cell?,Q6]
     have ct1:wr.cell? ⟨w1.heap.size,1,none⟩=some (.int .i64 (bH l k).cG.fC):=by rw[World.cell?_of_block H5];simp[World.cell?,Q6]
     have ca:wr.cell? ⟨Ba,0,none⟩=some (.slice (some ⟨b,o,none⟩) l.length cp):=by rw[World.cell?_of_block hka];simp[World.cell?,LG]
     have hPw:nN wr (.slice (some ⟨b,o,none⟩) l.length cp) l:=kl.pl (kl.trans Oi Kh) hP
     have hba:Ba<wr.heap.size:=by
      have h1:=(Array.getElem?_eq_some_iff.1 LG).1
      have h2:=kl.size (kl.trans Oi Kh)
      omega
     have Nr:ig (1-(m:Int)) 0 3=true:=sM ad
     have hpb:=Hg (hA.pt ea)
     have Sb:=fun w0=>BJ w0 (bH l k).cG (1-(m:Int)) Nr hpb.1 hpb.2
     have hPd:nN wr.drew (.slice (some ⟨b,o,none⟩) l.length cp) l:=hPw.below ⟨rfl,rfl,rfl,Nat.le_refl _,fun _ _=>rfl⟩
     have cad:wr.drew.cell? ⟨Ba,0,none⟩=some (.slice (some ⟨b,o,none⟩) l.length cp):=ca
     have ctd0:wr.drew.cell? ⟨w1.heap.size,0,none⟩=some (.int .i64 (bH l k).cG.fZ):=ct0
     have ctd1:wr.drew.cell? ⟨w1.heap.size,1,none⟩=some (.int .i64 (bH l k).cG.fC):=ct1
     have hfw:=hA.IB
     have hlb:=hA.PG
     have RI:=mixed
     gi_wp2
     gi_region_with_o (first|(refine⟨trivial,?_⟩;gi_at_call 161;refine(callsIn_wide.2 (Sb _)).mono ?_;rintro e w3 ⟨rfl,yn⟩;have ca3:=(yn.cell (p:=⟨Ba,0,none⟩) hba).trans cad)|(refine⟨trivial,?_⟩;gi_at_call 250;refine(callsIn_wide.2 (ue _ l _ (hPd.below yn) (ej (bH l k).cG (1-(m:Int))) hlb ad)).mono ?_;rintro e w4 ⟨rfl,hB4⟩))
     all_goals
      have LF:Below wr.heap.size wr w4:=(show Below wr.heap.size wr wr.drew from⟨rfl,rfl,rfl,Nat.le_refl _,fun _ _=>rfl⟩).trans (yn.trans (hB4.mono yn.size))
      have hJ4:J (kp l k++j0 l k m) w4:=hJ _ _ _ none hJm (grown_of LF) (fun r h=>by cases h)
      have IV:=Mt l ea (m:=m+1) ad
      rw[lD,<-List.append_assoc]at IV
      have yD:=lD l k m
      have hw:wrap64 ((m:Int)+1)=((m+1:Nat):Int):=by unfold wrap64;omega
      by_cases we:0<=ew l (ej (bH l k).cG (1-(m:Int)))
      ·have gP:((ew l (ej (bH l k).cG (1-(m:Int)))).toNat:Int)=ew l (ej (bH l k).cG (1-(m:Int))):=ad
       rw[zd,if_pos we]at IV yD
       obtain⟨fn,tmps,assign,body,hy,hR⟩:=hY _ (k,(ew l (ej (bH l k).cG (1-(m:Int)))).toNat,1-(m:Int)) w4 hJ4 (by
        have:=IV.length_le
        simp only[List.length_append,List.length_cons,List.length_nil]at this ⊢
        omega) ⟨ea,by
        have:ew l (ej (bH l k).cG (1-(m:Int)))<(l.length:Int):=I8 _ _
        show(ew l (ej (bH l k).cG (1-(m:Int)))).toNat<l.length
        omega,by show 0<=1-(m:Int);omega,by show 1-(m:Int)<=1;omega⟩
       simp only[Ci,gP]at hy
       gi_wp2
       refine hR.mono ?_
       rintro e W3 (⟨rfl,hJ3,hk3⟩|⟨rfl,hJx3⟩)
       ·gi_wp2
        go_roundw
        case rel=>exact⟨m+1,ad,by simp,by rw[yD,<-List.append_assoc];exact hJ3,kl.trans (kl.trans Kh (kl.of LF)) hk3⟩
        case measure=>simp[intOf];omega
       ·gi_wp2
        refine bodyPost_ret (results_none rfl _ _ _) rfl ?_
        exact⟨⟨_,rfl⟩,.inr ⟨_,IV,hJx3⟩⟩
      ·rw[zd,if_neg we,List.append_nil]at yD
       gi_wp2
       refine⟨fun _ h=>(by cases h),?_⟩
       gi_wp2
       go_roundw
       case rel=>exact⟨m+1,ad,by simp,by rw[yD];exact hJ4,kl.trans Kh (kl.of LF)⟩
       case measure=>simp[intOf];omega
    ·obtain rfl:m=2:=ad
     have hfw:=hA.IB
     gi_wp2
     go_roundw
     case rel=>exact⟨k+1,ad,by simp,by rw[k7];exact hJm,kl.trans Oi Kh⟩
     case measure=>simp[intOf];omega
  ·obtain rfl:k=l.length:=ad
   gi_wp2
   go_end0
   exact⟨⟨_,rfl⟩,.inl ⟨_,rfl,hJs⟩⟩
theorem wN (n:Nat) (vS:Value) (w:World):CallsIn Fence.wide n Tryz.prog 158 #[.agg #[vS]] w fun e w'=>e=.returned (.func (.func 249) #[] #[.pointer (some ⟨w.heap.size,0,none⟩)])/\w'=w.alloc (.cells #[vS] 41):=by
 refine callsIn_of_wp Tryz.func158 rfl trivial ?_ rfl
 simp only[Tryz.ntmps158,List.size_toArray,List.length_cons,List.length_nil,Nat.reduceAdd,Nat.reduceSub,Array.replicate_succ,Array.replicate_zero,List.push_toArray,List.append_toArray,List.nil_append,List.cons_append]
 gi_wp2
 go_ret
 exact⟨rfl,rfl⟩
abbrev K2 (l:List ai):Type:={x:Nat×Nat×Int // NM l x}
theorem G4 (l:List ai) (hA:jP l) (Ba n:Nat) (hn:1<=n) (vS:Value) (K:World->World->Prop) (kl:Fu K vS l) (w:World) (LG:w.heap[Ba]? =some (.cells #[vS] 41 (0,0))) (hP:nN w vS l):
  SeqStopsK Fence.wide n Tryz.prog 249 #[.pointer (some ⟨Ba,0,none⟩)] (fun x:K2 l=>Ci x.1) K (fun ys=>ys.map (·.1)=kp l l.length) (fun _=>True) (kp l l.length).length w:=fun q J Jx W hW hJ _ hY h0=>by
 refine(Pw l hA q Ba vS K kl (fun ys W=>∃zs:List (K2 l),zs.map (·.1)=ys/\J zs W) (fun ys W=>∃zs:List (K2 l),zs.map (·.1)=ys/\Jx zs W) n hn (fun pre x W1 hJ1 ea rE=>?_) W (fun s A B row ⟨zs,e,h⟩ hg hr=>⟨zs,e,hJ zs A B row h hg hr⟩) ((hW.block Ba (Array.getElem?_eq_some_iff.1 LG).1).trans LG) (hP.below hW) ⟨[],rfl,h0⟩).mono ?_
 ·obtain⟨zs,rfl,h1⟩:=hJ1
  refine YieldAt.mono (hY zs ⟨x,rE⟩ W1 h1 (by simpa using ea)) ?_
  rintro e W' (⟨h2,h3,h4⟩|⟨h2,h3⟩)
  ·exact .inl ⟨h2,⟨zs++[⟨x,rE⟩],by simp,h3⟩,h4⟩
  ·exact .inr ⟨h2,⟨zs++[⟨x,rE⟩],by simp,h3⟩⟩
 ·rintro e W' ⟨h1,⟨ys,rfl,zs,h2,h3⟩|⟨pre,_,zs,h2,h3⟩⟩
  ·exact⟨h1,.inl ⟨zs,h2,h3⟩⟩
  ·exact⟨h1,.inr ⟨zs,trivial,h3⟩⟩
def vG (s:ao) (l:List ai) (x:Nat×Nat×Int):List PB:=if 0<gM s (bH l x.1).bU x.2.2 (bH l x.2.1).bU then[⟨x.1,x.2.1,gM s (bH l x.1).bU x.2.2 (bH l x.2.1).bU⟩]else[]
theorem FL (s:ao) (l:List ai):cI s l=(kp l l.length).flatMap (vG s l):=by
 have h1:∀i d,gY s l i d=(zd l i d).flatMap (vG s l):=fun i d=>by
  unfold gY zd
  by_cases h:0<=ew l (ej (bH l i).cG d)
  ·rw[if_pos h]
   simp only[List.flatMap_cons,List.flatMap_nil,List.append_nil,vG]
   by_cases h2:0<gM s (bH l i).bU d (bH l (ew l (ej (bH l i).cG d)).toNat).bU
   ·rw[if_pos ⟨h,h2⟩,if_pos h2]
   ·rw[if_neg fun hc=>h2 hc.2,if_neg h2]
  ·rw[if_neg h,if_neg fun hc=>h hc.1];rfl
 unfold cI fw kp
 rw[List.flatMap_assoc]
 congr 1
 funext i
 unfold eF j0
 rw[List.flatMap_assoc]
 congr 1
 funext j
 exact h1 i _
end Go.Proofs.YtphenfakmdknlaaGreat.V

namespace Go.Proofs.YtphenfakmdknlaaGreat.V
open Go.RowKit
attribute [local irreducible] dJ wpOps e8 Call
attribute [local go_sem] ax eB dY eJ eI cJ upd bD K.av bW AV.cells AV.cell rowOf rowsOf part ld rowAt bC bx cU de fj bf cC dv eO er cL dm cw cu cZ da bl aI bZ bj ck cj di dn dj bY bo cz dh bh au cq bJ fh aT bV bm aH cS aQ cV AV.undef aV bc db dd cY dc bQ du dw bG dq dp cm cr List.getD_cons_zero List.getD_cons_succ List.getD_nil List.all_cons List.all_nil Bool.and_true Bool.true_and Bool.and_self Bool.not_true Bool.not_false Option.map_some Option.map_none Option.bind_some Option.bind_none List.length_cons List.length_nil List.take_succ_cons List.take_zero List.take_nil List.drop_succ_cons List.drop_zero List.drop_nil List.head?_cons List.map_cons List.map_nil List.getElem?_cons_zero List.getElem?_cons_succ List.cons_append List.nil_append List.append_nil List.length_map List.set_cons_zero List.set_cons_succ Nat.reduceMul eq_self Int.toNat_natCast Int.natCast_nonneg and_self true_and and_true decide_true decide_false Bool.false_eq_true Nat.zero_add Nat.add_zero List.contains_cons List.contains_nil Bool.or_false Bool.false_or beq_self_eq_true Nat.reduceBEq ne_eq not_true_eq_false not_false_eq_true Id.mk.injEq false_and and_false Nat.reduceLT Int.reduceLE Int.reduceLT Int.reduceToNat Int.reduceNeg Int.reduceAdd Nat.le_refl List.length_append beq_true beq_false Bool.not_eq_eq_eq_not or_false false_or dG ab ae az aU bu aC aP aE aJ cD aX
def K0:Prop:=∀(s:ao) (l:List ai),lV s->qc s l->ak Tryz.prog 200 [.agg (aa s),.agg [.sl (l.map ah)]] (JR (cI s l))
theorem rF (t:Int):ak Tryz.prog 95 [.int .i64 t] (.bool (ig t 1 16)):=by
 refine ak.body eL rfl fun hl n0=>?_
 clear hl
 have h:=ke t 1 16
 (repeat(first|((repeat(revert hN;revert N;apply Pn.out));refine wk @Nat.zero_add ?_;(repeat(refine Pn.mk ?_;intro N hN)))|((try apply Or.inl);refine⟨_,ak.x (h) (sd @Nat.zero_add),?_⟩;refine hN _ _ ?_;clear hN N)))
 exact bt (b:=ig t 1 16) (.inl rfl) (sd @Nat.zero_add) rfl
end Go.Proofs.YtphenfakmdknlaaGreat.V

namespace Go.Proofs.YtphenfakmdknlaaGreat.V
open Go.RowKit
variable {P:Program} {hs:Nat}
theorem Fb {q n i:Nat} {ops:Array Oper} {Q:Exit->Act->World->Prop} {K K':Act->World->Prop} {a:Act} {w:World} (kD:∀(j:Nat) (o:Oper),ops[j]? =some o->∀c,o.op≠.defer c) (lv:¬LetsOut Q) (hK:∀a w,K a w->K' a w) (h:wpOp P ops Q i K a w):wpOpIn (Fence.wide.inRound q) n P ops Q i K' a w:=by
 unfold wpOp at h
 unfold wpOpIn
 split at h
 ·rename_i ho;simp only[ho];exact hK _ _ h
 ·rename_i o ho
  simp only[ho]
  split at h
  ·rename_i hw
   rw[if_pos hw]
   replace h:=h.resolve_right fun hc=>lv hc.2
   refine⟨fun _ _=>trivial,?_⟩
   rw[Oper.semAt_eq _ _ _ (kD i o ho)]
   unfold Oper.wp at h
   generalize (execOp a.eval o).run P w=r at *
   cases r with
   |ok m w'=>
    cases m<;>simp only[Oper.upon,Oper.uponIn]at h ⊢
    case value=>exact hK _ _ h
    case skip=>exact hK _ _ h
    case defer=>exact hK _ _ h
    case enter f args=>
     refine⟨fun h=>by simp[Fence.wide]at h,CallsIn.inRound q (callsIn_wide.2 (h.mono fun e Ib he=>?_))⟩
     cases e with
     |returned v=>exact hK _ _ he
     |panicked c=>exact he
     |outgrown=>exact he
    case row r args=>exact⟨fun h=>by simp[Fence.wide]at h,fun c cs _=>let ⟨v,Ib,h1,s⟩:=h c cs;⟨v,Ib,hK _ _ h1,stepsIn_wide.2 s⟩⟩
   |halt x w'=>cases x<;>simp only[Oper.upon,Oper.uponIn]at h ⊢;exact h
  ·rename_i hw
   rw[if_neg hw]
   exact⟨fun _ _=>trivial,hK _ _ h⟩
theorem tE {q n:Nat} {md:Region.Mode} {ops:Array Oper} {Q:Exit->Act->World->Prop} (kD:∀(j:Nat) (o:Oper),ops[j]? =some o->∀c,o.op≠.defer c) (lv:¬LetsOut Q):∀(fuel:Nat) (listed:Array Bool) (a:Act) (w:World),wpAny P md ops Q fuel listed a w->wpAnyIn (Fence.wide.inRound q) n P md ops Q fuel listed a w
 |0,_,_,_,h=>h
 |fuel+1,listed,_,_,h=>⟨h.1,fun i hi=>Fb kD lv (fun a w=>tE kD lv fuel _ a w) (h.2 i hi)⟩
def CJ:Op->Bool
 | .defer _=>true
 |_=>false
theorem G7 {ops:Array Oper} (h:(ops.all fun o=> !CJ o.op)=true):∀(j:Nat) (o:Oper),ops[j]? =some o->∀c,o.op≠.defer c:=fun j o hj c hc=>by
 have:=Array.all_eq_true_iff_forall_mem.1 h o (Array.mem_of_getElem? hj)
 rw[hc]at this
 simp[CJ]at this
theorem wR (hm:P.follows .mixedOrders=true) {nt site0 id q n:Nat} {ops:Array Oper} {vl:List bw} (h:o7 P nt site0 ops true false=some vl) (kD:∀(j:Nat) (o:Oper),ops[j]? =some o->∀c,o.op≠.defer c)
  {K:Env->ar->Prop} {env:Env} {σ:ar} {a:Act} {w:World} {D:Nat->Prop} {ι:Names} {Q:Exit->Act->World->Prop} (hv:wpOps (Sound P) true vl K env σ) (ee:St P hs nt D ι env σ a w)
  (hK:∀gG σ' a' w' D' ι',K gG σ'->Step hs D ι w D' ι' w'->St P hs nt D' ι' gG σ' a' w'->a'.defers=a.defers->Q .normal a' w'):(Code.region id ops true).wpIn (Fence.wide.inRound q) n P Q a w:=by
 have dy:∃hidden qI,allM (kX P ops nt site0 true false (iN ops) hidden) ops.toList 0=some qI/\vl=qI/\mA ops qI (iN ops)=true:=by
  unfold o7 at h
  simp only[if_true,Bool.not_true,Bool.false_or]at h
  split at h
  ·rename_i qI h'
   split at h
   ·rename_i rE;simp at h;exact⟨_,qI,h',h.symm,rE⟩
   ·cases h
  ·cases h
 obtain⟨hidden,qI,dy,rfl,rE⟩:=dy
 obtain⟨pk,T0⟩:=ee.drew
 obtain⟨hlen,_⟩:=ml dy
 have jU:vl.length=ops.size:=by rw[hlen];simp
 have AK:=tC (X:=Sound P) (K:=K) (n:=σ.next) rE jU vl 0 (Array.replicate ops.size false) env σ.get (by simp) (by simp) (fun i hi=>by simp[hi]) (by simp[jU]) (fun k i h=>by
  exfalso
  rcases Nat.lt_or_ge k ops.size with hk|hk
  ·simp[hk]at h
  ·simp[Nat.not_lt.2 hk]at h) hv
 rw[jU]at AK
 have hw:=um (Q:=fun e a w=>e=.normal/\Q .normal a w) dy ops.size _ env σ.get a w.drew D ι (fun _=>False) AK pk.Ia pk.used (fun _ h=>h.elim) pk.env pk.size fun jE g1 a1 w1 D1 ι1 U1 hk T S1 QK E1 uO hd=>⟨rfl,hK jE ⟨g1,σ.next+1⟩ a1 w1 D1 ι1 hk (T0.trans T) ⟨S1,QK.next,E1,uO⟩ hd⟩
 have gP:=tE (q:=q) (n:=n) (Q:=fun e a w=>e=.normal/\Q .normal a w) kD (by rintro⟨_,_,hc,_⟩;cases hc) ops.size _ a w.drew hw
 refine wpIn_mono (wpIn_region_any (id:=id) hm gP) ?_
 rintro e a w ⟨rfl,h⟩
 exact h
end Go.Proofs.YtphenfakmdknlaaGreat.V

namespace Go.Proofs.YtphenfakmdknlaaGreat.V
open Go.RowKit Go.Shelf
attribute [local go_sem] Oper.semAt_some
def gu (n₀:Nat) (W W':World):Prop:=W.heap.size<=W'.heap.size/\(∀(b:Nat) (cells:Array Value) (T:TypeId) (fr:Nat×Nat),W.heap[b]? =some (Obj.cells cells T fr)->T≠105->T≠212->W'.heap[b]? =W.heap[b]?)/\∀k,k<n₀->k<W.heap.size->W'.heap[k]? =W.heap[k]?
theorem gu.trans {n₀:Nat} {A B C:World} (h:gu n₀ A B) (k:gu n₀ B C):gu n₀ A C:=⟨Nat.le_trans h.1 k.1,fun b cells T fr hb h1 h2=>by
 have e:=h.2.1 b cells T fr hb h1 h2
 rw[<-e]at hb ⊢
 exact k.2.1 b cells T fr hb h1 h2,fun b hb hs=>(k.2.2 b hb (Nat.lt_of_lt_of_le hs h.1)).trans (h.2.2 b hb hs)⟩
theorem gu.of {n₀:Nat} {W W':World} (h:Below W.heap.size W W'):gu n₀ W W':=⟨h.size,fun b cells T fr hb _ _=>h.block b (Array.getElem?_eq_some_iff.1 hb).1,fun k _ hs=>h.block k hs⟩
theorem gu.refl (n₀:Nat) (W:World):gu n₀ W W:=⟨Nat.le_refl _,fun _ _ _ _ _ _ _=>rfl,fun _ _ _=>rfl⟩
theorem gu.b {n₀ m:Nat} (hm:n₀<=m) (W:World) (l:Nat) (o o':Obj) (hl:m<=l) (h:W.heap[l]? =some o) (hc:o.isCells=false) (_:o.isWalk=false):gu n₀ W (W.putObj l o'):=by
 refine⟨by simp,fun b cells T fr hb _ _=>?_,fun k hk _=>World.putObj_heap_other ad⟩
 by_cases re:b=l
 ·subst re;rw[h]at hb;cases hb;cases hc
 ·exact World.putObj_heap_other re
def Ip (bs:List PB):List Value:=bs.flatMap fun b=>[.int .i64 b.a,.int .i64 b.b,.int .i64 b.s]
theorem FG (bs:List PB) (b:PB):Ip (bs++[b])=Ip bs++[.int .i64 b.a,.int .i64 b.b,.int .i64 b.s]:=by simp[Ip]
def lX (s:ao) (l:List ai) (pre:List (K2 l)):List PB:=(pre.map (·.1)).flatMap (vG s l)
theorem uo (s:ao) (l:List ai) (pre:List (K2 l)) (x:K2 l):lX s l (pre++[x])=lX s l pre++vG s l x.1:=by simp[lX]
theorem FF (s:ao) (l:List ai) (x:Nat×Nat×Int):(vG s l x).length<=1:=by
 unfold vG;split<;>simp
theorem FH (s:ao) (l:List ai) (pre:List (K2 l)):(lX s l pre).length<=pre.length:=by
 unfold lX
 induction pre with
 |nil=>simp
 |cons x r ih=>
  have:=FF s l x.1
  simp only[List.map_cons,List.flatMap_cons,List.length_append,List.length_cons]at ih ⊢
  omega
theorem uT (l:List ai) (i:Nat):∀m,(j0 l i m).length<=m
 |0=>by simp[j0]
 |m+1=>by
  rw[lD,List.length_append]
  have:=uT l i m
  have:(zd l i (1-(m:Int))).length<=1:=by unfold zd;split<;>simp
  omega
theorem ze (l:List ai):∀n,(kp l n).length<=n*2
 |0=>by simp[kp]
 |n+1=>by
  rw[k7,List.length_append]
  have:=ze l n
  have:=uT l n 2
  omega
theorem yq {β:Type} (B:Nat) (c:Array Value) (t:TypeId) (fr:Nat×Nat):Own (fun(_:β) W=>W.heap[B]? =some (.cells c t fr)):=fun _ X _ row h hg hr=>(hg.block B (Array.getElem?_eq_some_iff.1 h).1 (fun e=>by
 obtain⟨o,ho,hc⟩:=hr B e.symm
 rw[h]at ho;cases ho;cases hc)).trans h
theorem gu.app {n₀:Nat} {W w1:World} {B k:Nat} {v v':Value} {xs:List Value} {tmp:Obj} (hv:Boxed W B 105 v) (kM:W.ownsRow n₀ 212 3 v k xs) (Cz:(W.alloc tmp).grownBy w1 v.ownBlock) (hb:Below n₀ W (w1.setCell ⟨B,0,none⟩ v')):gu n₀ W (w1.setCell ⟨B,0,none⟩ v'):=by
 refine⟨hb.size,fun b cells T fr h h1 h2=>?_,fun k hk _=>hb.block k hk⟩
 have ea:=(Array.getElem?_eq_some_iff.1 h).1
 have hbB:b≠B:=by
  rintro rfl
  rw[show W.heap[b]? = _ from hv]at h
  cases h
  exact h1 rfl
 have Qf:some b≠v.ownBlock:=by
  rcases kM.2 with⟨rfl,_⟩|⟨g,cap,cur,rfl,_,hg,_⟩
  ·simp[Value.ownBlock]
  ·intro e
   obtain rfl:b=g:=by simpa[Value.ownBlock]using e
   rw[hg]at h;cases h
   exact h2 rfl
 refine(Below.heap_setCell w1 ⟨B,0,none⟩ v' b hbB).trans ?_
 exact(Cz.block b (by simp;omega) Qf).trans (Below.heap_alloc W tmp b ea)
theorem Pq {w:World} {vS:Value} {l:List ai} (hP:nN w vS l):Fu (gu w.heap.size) vS l where
 refl:=gu.refl _
 trans:=gu.trans
 of:=gu.of
 size h:=h.1
 typed h:=h.2.1
 pl {W W'} h hp:=by
  obtain⟨A,c,rfl,hm,hc⟩:=hp.sl
  refine⟨A,c,rfl,hm,?_⟩
  by_cases hl:l=[]
  ·exact .inl hl
  have jo:0<l.length:=List.length_pos_iff.2 hl
  rcases hc with h0|⟨b,o,rfl,iV⟩
  ·exact absurd h0 hl
  obtain⟨A',c',e,_,jT⟩:=hP.sl
  cases e
  rcases jT with h0|⟨b',o',e,hcell'⟩
  ·exact absurd h0 hl
  cases e
  have hb:=rK (hcell' 0 jo).1
  have hk:=h.2.2 b hb (rK (iV 0 jo).1)
  refine .inr ⟨b,o,rfl,fun i hi=>?_⟩
  have v7:∀x,W'.cell? ⟨b,x,none⟩=W.cell? ⟨b,x,none⟩:=fun x=>World.cell?_of_block hk
  rw[v7,v7,v7]
  exact iV i hi
theorem rrE {P:Program} {nt site0:Nat} {ops:Array Oper} {vl:List bw} (_:vJ P ops site0 false (iN ops) (pC P false ops.toList 0) ops.toList 0=some vl:=by(conv=>lhs;cbv)<;>exact rfl) (h:o7 P nt site0 ops true false=some vl:=by kernel_rfl):o7 P nt site0 ops true false=some vl:=h
theorem GU (l:List Value) (d:Value):l=(List.range l.length).map fun i=>(⟨l⟩:Array Value).getD i d:=by
 refine List.ext_getElem (by simp) fun i h1 h2=>?_
 simp[h1]
theorem Bv {X:fb} {d:Bool} {ops:List bw} {K:Env->ar->Prop} {env:Env} {σ:ar} (h:dJ X (.eD d ops) (fun _=>K) env σ):wpOps X d ops K env σ:=h
theorem sn (W:World) (T:TypeId) (x y z:Value):∀(j:Nat) (u:Value),[x,y,z][j]? =some u->(W.alloc (.cells #[x,y,z] T)).cell? ((⟨W.heap.size,0,none⟩:Addr).add j)=some u:=fun j u h=>by
 have hb:(W.alloc (.cells #[x,y,z] T)).heap[W.heap.size]? =some (.cells #[x,y,z] T (0,0)):=World.alloc_heap_new _ _
 have e:∀k,(W.alloc (.cells #[x,y,z] T)).cell? ⟨W.heap.size,k,none⟩=(#[x,y,z]:Array Value)[k]? :=fun k=>by
  unfold World.cell?
  rw[show(W.alloc (.cells #[x,y,z] T)).heap[(⟨W.heap.size,k,none⟩:Addr).block]? = _ from hb]
  rfl
 rw[show(⟨W.heap.size,0,none⟩:Addr).add j=⟨W.heap.size,j,none⟩ by simp[Addr.add];exact fun h=>h.symm,e]
 simpa using h
def FP (n b:Nat):Names:=fun id=>if id=⟨1,0⟩then some ⟨n,2,2,none⟩else if id=⟨2,0⟩then some ⟨n+1,1,1,none⟩else if id=⟨3,0⟩then some ⟨n+1+1,1,1,none⟩else if id=⟨4,0⟩then some ⟨b,2,2,none⟩else if id=⟨5,0⟩then some ⟨n+1+1+1,1,1,none⟩else none
def Kd (s:ao) (l:List ai) (i k:Nat):Rows:=fun id=>if id=⟨1,0⟩then some ⟨false,2,[aa s]⟩else if id=⟨2,0⟩then some ⟨false,1,[[.sl (l.map ah)]]⟩else if id=⟨4,0⟩then some ⟨false,2,[[.int .i64 (i:Int),.int .i64 (k:Int)]]⟩else none
def Lg (s:ao) (l:List ai) (i k:Nat) (d:Int):Env:=bD [.agg (aa s),.agg [.sl (l.map ah)],.ptr ⟨1,0⟩ 0 0,.ptr ⟨2,0⟩ 0 0,.cK,.ptr ⟨3,0⟩ 0 0,.ptr ⟨4,0⟩ 0 0,.int .i64 d,.undef,.agg [.sl (l.map ah)],.fn 249 [.ptr ⟨5,0⟩ 0 0],.agg [.int .i64 (i:Int),.int .i64 (k:Int)],.int .i64 d]
theorem BD {P:Program} {W:World} {D:Nat->Prop} {ι:Names} {B:qM} {cells:Array Value} {T:TypeId} {cs:List AV} (hk:B.k=none) (hb:W.heap[B.b]? =some (.cells cells T (0,0))) (hC:cells.size=B.C) (hz:B.sz=cs.length) (hl:cs.length=cells.size) (hf:∀a∈cs,a.cell=true) (hr:∀(j:Nat) (a:AV),cs[j]? =some a->∃v,cells[j]? =some v/\cQ P W D ι a v):gL P W D ι B ⟨false,cs.length,[cs]⟩:=
 kC.obj ⟨hz,⟨cells,T,hb,hC⟩,by simp;omega,fun c hc=>by simp at hc;rw[hc],fun c hc=>by simp at hc;rw[hc];exact hf,fun i j c a hi hj=>by
  match i,hi with
  |0,hi=>
   simp at hi;subst hi
   obtain⟨v,h1,h2⟩:=hr j a hj
   exact⟨v,by simp[World.cell?,hb,h1],h2⟩
  |i+1,hi=>simp at hi⟩ hk
theorem GF:(Tryz.prog.info? 212).map (fun i=>(i.zero,i.size,i.bytes))=some (some (.agg #[.int .i64 0,.int .i64 0,.int .i64 0]),3,24):=by kernel_rfl
end Go.Proofs.YtphenfakmdknlaaGreat.V

namespace Go.Proofs.YtphenfakmdknlaaGreat.V
open Go.RowKit Go.Shelf
attribute [local go_sem] Oper.semAt_some
attribute [local irreducible] dJ wpOps e8 Call
attribute [local go_sem] ax eB dY eJ eI cJ upd bD K.av bW AV.cells AV.cell rowOf rowsOf part ld rowAt bC bx cU de fj bf cC dv eO er cL dm cw cu cZ da bl aI bZ bj ck cj di dn dj bY bo cz dh bh au cq bJ fh aT bV bm aH cS aQ cV AV.undef aV bc db dd cY dc bQ du dw bG dq dp cm cr List.getD_cons_zero List.getD_cons_succ List.getD_nil List.all_cons List.all_nil Bool.and_true Bool.true_and Bool.and_self Bool.not_true Bool.not_false Option.map_some Option.map_none Option.bind_some Option.bind_none List.length_cons List.length_nil List.take_succ_cons List.take_zero List.take_nil List.drop_succ_cons List.drop_zero List.drop_nil List.head?_cons List.map_cons List.map_nil List.getElem?_cons_zero List.getElem?_cons_succ List.cons_append List.nil_append List.append_nil List.length_map List.set_cons_zero List.set_cons_succ Nat.reduceMul eq_self Int.toNat_natCast Int.natCast_nonneg and_self true_and and_true decide_true decide_false Bool.false_eq_true Nat.zero_add Nat.add_zero List.contains_cons List.contains_nil Bool.or_false Bool.false_or beq_self_eq_true Nat.reduceBEq ne_eq not_true_eq_false not_false_eq_true Id.mk.injEq false_and and_false Nat.reduceLT Int.reduceLE Int.reduceLT Int.reduceToNat Int.reduceNeg Int.reduceAdd Nat.le_refl List.length_append beq_true beq_false Bool.not_eq_eq_eq_not or_false false_or dG ab ae az aU bu aC aP aE aJ cD aX
theorem FK (s:ao) (l:List ai) (hF:jL s) (hA:qc s l) (w:World) (Ag At:Option Addr) (ng cg nt ct:Nat) (vS:Value) (hT:jk Tryz.prog w (fun b=>b<w.heap.size) (.agg (aa s)) (.agg #[.slice Ag ng cg,.slice At nt ct])) (hP:nN w vS l):
  CallsIn Fence.wide 5 Tryz.prog 200 #[.agg #[.slice Ag ng cg,.slice At nt ct],.agg #[vS]] w fun e W'=>∃v,e=.returned v/\W'.ownsRow w.heap.size 212 3 v (cI s l).length (Ip (cI s l))/\(v=.slice none 0 0↔cI s l=[])/\Below w.heap.size w W':=by
 obtain⟨A,cp,rfl,_,_⟩:=hP.sl
 obtain⟨i0,hi,Fl,uO,jw⟩:=info_parts GF
 refine callsIn_of_wp_marks Tryz.func200 rfl trivial ?_ rfl
 simp only[Tryz.ntmps200,List.size_toArray,List.length_cons,List.length_nil,Nat.reduceAdd,Nat.reduceSub,Array.replicate_succ,Array.replicate_zero,List.push_toArray,List.append_toArray,List.nil_append,List.cons_append]
 gi_wp2_with (refine⟨trivial,?_⟩;gi_at_call 158;refine(wN _ _ _).mono ?_;rintro e w' ⟨rfl,rfl⟩)
 have bT:((w.alloc (.cells #[.slice Ag ng cg,.slice At nt ct] 37)).heap[w.heap.size]?)=some (.cells #[.slice Ag ng cg,.slice At nt ct] 37 (0,0)):=World.alloc_heap_new _ _
 obtain⟨w1,pq⟩:∃w1,w.alloc (.cells #[.slice Ag ng cg,.slice At nt ct] 37)=w1:=⟨_,rfl⟩
 have NG:w1.heap.size=w.heap.size+1:=by rw[<-pq];simp
 have xk:Below w.heap.size w w1:=by rw[<-pq];exact(Below.refl _ w).alloc (Nat.le_refl _) _
 rw[pq]at bT ⊢
 clear pq
 have bA:=Boxed.new w1 41 (.slice A l.length cp)
 have bO:=Boxed.new (w1.alloc (.cells #[.slice A l.length cp] 41)) 105 (.slice none 0 0)
 have bN:=Boxed.new ((w1.alloc (.cells #[.slice A l.length cp] 41)).alloc (.cells #[.slice none 0 0] 105)) 41 (.slice A l.length cp)
 replace bA:=(bA.alloc (.cells #[.slice none 0 0] 105)).alloc (.cells #[.slice A l.length cp] 41)
 replace bO:=bO.alloc (.cells #[.slice A l.length cp] 41)
 simp only[World.size_alloc,NG]at bA bO bN
 have nQ:Below w1.heap.size w1 (((w1.alloc (.cells #[.slice A l.length cp] 41)).alloc (.cells #[.slice none 0 0] 105)).alloc (.cells #[.slice A l.length cp] 41)):=(((Below.refl _ w1).alloc (Nat.le_refl _) _).alloc (by simp) _).alloc (by simp;omega) _
 have eU:(((w1.alloc (.cells #[.slice A l.length cp] 41)).alloc (.cells #[.slice none 0 0] 105)).alloc (.cells #[.slice A l.length cp] 41)).heap.size=w.heap.size+4:=by simp;omega
 obtain⟨W0,hW0⟩:∃W0,((w1.alloc (.cells #[.slice A l.length cp] 41)).alloc (.cells #[.slice none 0 0] 105)).alloc (.cells #[.slice A l.length cp] 41)=W0:=⟨_,rfl⟩
 rw[hW0]at bA bO bN nQ eU ⊢
 clear hW0
 have tG:Below w.heap.size w W0:=xk.trans (nQ.mono ad)
 replace bT:=(nQ.block w.heap.size ad).trans bT
 have hP0:nN W0 (.slice A l.length cp) l:=hP.below tG
 have kl:=Pq hP
 have re:=ou (s:=s) hA.1
 refine wpIn_rangeFunc_ownH (n:=5) rfl ad (gf:=249) (lb:= #[.pointer (some ⟨w.heap.size+1+1+1,0,none⟩)]) rfl trivial (enters_of Tryz.func249 (by kernel_rfl) rfl)
  (G4 l hA.1 (w.heap.size+1+1+1) (5-1) ad (.slice A l.length cp) (gu w.heap.size) kl W0 bN hP0) gu.trans (gu.b ad) (Below.refl _ _) (fun _=>rfl)
  (fun pre W=>((∃v,Boxed W (w.heap.size+1+1) 105 v/\W.ownsRow w.heap.size 212 3 v (lX s l pre).length (Ip (lX s l pre))/\(v=.slice none 0 0↔lX s l pre=[]))/\(Boxed W (w.heap.size+1) 41 (.slice A l.length cp)/\W.heap[w.heap.size]? =some (.cells #[.slice Ag ng cg,.slice At nt ct] 37 (0,0))))/\Below w.heap.size w W)
  (fun _ _ _=>False)
  (OwnFrom.and (OwnFrom.and (Own.from (holdsRow_own w.heap.size (w.heap.size+1+1) 105 212 3 (fun pre=>(lX s l pre).length) (fun pre=>Ip (lX s l pre)) (fun pre v=>v=.slice none 0 0↔lX s l pre=[])) _) (OwnFrom.and (Own.from (boxed_own _ _ _) _) (Own.from (yq _ _ _ _) _))) (ownFrom_below (Nat.le_refl _) ad))
  (fun _ _ _ _ _ hs _ _=>hs)
  ⟨⟨⟨_,bO,World.ownsRow_nil _ _ _ _,by simp[lX]⟩,bA,bT⟩,tG⟩
  (fun x a' W=>∃Bx,w.heap.size+1+1<Bx/\W.heap[Bx]? =some (.cells #[.int .i64 (x.1.1:Int),.int .i64 (x.1.2.1:Int)] 217 (0,0))/\a'={tmps:= #[.agg #[.slice Ag ng cg,.slice At nt ct],.agg #[.slice A l.length cp],.pointer (some ⟨w.heap.size,0,none⟩),.pointer (some ⟨w.heap.size+1,0,none⟩),.slice none 0 0,.pointer (some ⟨w.heap.size+1+1,0,none⟩),.pointer (some ⟨Bx,0,none⟩),.int .i64 x.1.2.2,undef,.agg #[.slice A l.length cp],.func (.func 249) #[] #[.pointer (some ⟨w.heap.size+1+1+1,0,none⟩)],.agg #[.int .i64 (x.1.1:Int),.int .i64 (x.1.2.1:Int)],.int .i64 x.1.2.2,undef,undef,undef,undef,undef,undef,undef,undef,undef,undef,undef,undef,undef,undef,undef,undef,undef,undef,undef,undef,undef,undef,undef,undef,undef,undef,undef,undef,undef],defers:=[]})
  (fun x a' _ X Y row hs hg hr=>by obtain⟨Bx,h1,h2,h3⟩:=hs;exact⟨Bx,h1,yq Bx _ _ _ () X Y row h2 hg (fun r e=>(hr r e).2),h3⟩)
  ?assign ?body ?done ?stop
 case assign=>
  rintro q pre ⟨⟨x0,x1,x2⟩,hx⟩ W K ⟨⟨⟨v,hv,kM,hnil⟩,bA1,bT1⟩,hB⟩ hK
  simp only[Ci]
  gi_wp2
  exact hK _ _ ((KeepsOthers.alloc _ _).from _) (gu.of ((Below.refl _ W).alloc (Nat.le_refl _) _)) ⟨⟨⟨v,hv.alloc _,kM.alloc _,hnil⟩,bA1.alloc _,(Below.heap_alloc _ _ _ (Array.getElem?_eq_some_iff.1 bT1).1).trans bT1⟩,hB.alloc hB.size _⟩ ⟨W.heap.size,hv.lt,World.alloc_heap_new _ _,rfl⟩
 case body=>
  rintro q pre ⟨⟨x0,x1,x2⟩,hx⟩ a' W hq hqr ⟨⟨⟨v,hv,kM,hnil⟩,bA1,bT1⟩,hB⟩ ⟨Bx,hBx,bX,rfl⟩ ea
  obtain⟨Mc,uN,xp⟩:=hx
  simp only at Mc uN xp bX
  obtain⟨A',c',e',_,hc⟩:=(hP.below hB).sl
  cases e'
  have dx:∃b o,A=some ⟨b,o,none⟩/\W.cell? ⟨b,o+x0*3+2,none⟩=some (.int .i64 (bH l x0).bU)/\W.cell? ⟨b,o+x1*3+2,none⟩=some (.int .i64 (bH l x1).bU):=by
   rcases hc with rfl|⟨b,o,rfl,iV⟩
   ·simp at Mc
   ·exact⟨b,o,rfl,by rw[Nat.add_assoc];exact(iV x0 Mc).2.2,by rw[Nat.add_assoc];exact(iV x1 uN).2.2⟩
  obtain⟨b,o,rfl,cP0,cP1⟩:=dx
  have cT0:W.cell? ⟨w.heap.size,0,none⟩=some (.slice Ag ng cg):=by simp[World.cell?,bT1]
  have cT1:W.cell? ⟨w.heap.size,1,none⟩=some (.slice At nt ct):=by simp[World.cell?,bT1]
  have cX0:W.cell? ⟨Bx,0,none⟩=some (.int .i64 (x0:Int)):=by simp[World.cell?,bX]
  have cX1:W.cell? ⟨Bx,1,none⟩=some (.int .i64 (x1:Int)):=by simp[World.cell?,bX]
  have cA:=bA1.cell
  have dP0:W.drew.cell? ⟨b,o+x0*3+2,none⟩=some (.int .i64 (bH l x0).bU):=cP0
  have dP1:W.drew.cell? ⟨b,o+x1*3+2,none⟩=some (.int .i64 (bH l x1).bU):=cP1
  have dT0:W.drew.cell? ⟨w.heap.size,0,none⟩=some (.slice Ag ng cg):=cT0
  have dT1:W.drew.cell? ⟨w.heap.size,1,none⟩=some (.slice At nt ct):=cT1
  have dX0:W.drew.cell? ⟨Bx,0,none⟩=some (.int .i64 (x0:Int)):=cX0
  have dX1:W.drew.cell? ⟨Bx,1,none⟩=some (.int .i64 (x1:Int)):=cX1
  have dA:W.drew.cell? ⟨w.heap.size+1,0,none⟩=some (.slice (some ⟨b,o,none⟩) l.length cp):=cA
  have iP:∀i,i<l.length->bH l i∈l:=fun i hi=>by
   unfold bH
   rw[List.getD_eq_getElem?_getD,List.getElem?_eq_getElem hi]
   exact List.getElem_mem hi
  have RI:=mixed
  have hfw:=hA.1.IB
  have Qg:=Le s hF (bH l x0).bU x2 (bH l x1).bU (hA.2 _ (iP x0 Mc)) (hA.2 _ (iP x1 uN)) (sM ad)
  have hTW:jk Tryz.prog W (fun b=>b<w.heap.size) (.agg (aa s)) (.agg #[.slice Ag ng cg,.slice At nt ct]):=hT.frame (fun b hb=>hB.block b hb) (fun _ h=>h)
  have hAW:jk Tryz.prog W (fun b=>b<w.heap.size) (.sl (l.map ah)) (.slice (some ⟨b,o,none⟩) l.length cp):=hP.ez.frame (fun b hb=>hB.block b hb) (fun _ h=>h)
  obtain⟨fT,hT0,hT1⟩:∃f:Nat->Value,(∀j,j<(aa s).length->(#[Value.slice Ag ng cg,.slice At nt ct])[j]? =some (f j))/\∀j a,(aa s)[j]? =some a->jk Tryz.prog W (fun b=>b<w.heap.size) a (f j):=by
   cases hTW with
   |agg _ _ f _ _ h3 h4=>exact⟨f,h3,h4⟩
  have ee:St Tryz.prog W.heap.size 42 (fun b=>b<w.heap.size) (FP w.heap.size Bx) (Lg s l x0 x1 x2) ⟨Kd s l x0 x1,1⟩ {tmps:= #[.agg #[.slice Ag ng cg,.slice At nt ct],.agg #[.slice (some ⟨b,o,none⟩) l.length cp],.pointer (some ⟨w.heap.size,0,none⟩),.pointer (some ⟨w.heap.size+1,0,none⟩),.slice none 0 0,.pointer (some ⟨w.heap.size+1+1,0,none⟩),.pointer (some ⟨Bx,0,none⟩),.int .i64 x2,undef,.agg #[.slice (some ⟨b,o,none⟩) l.length cp],.func (.func 249) #[] #[.pointer (some ⟨w.heap.size+1+1+1,0,none⟩)],.agg #[.int .i64 (x0:Int),.int .i64 (x1:Int)],.int .i64 x2,undef,undef,undef,undef,undef,undef,undef,undef,undef,undef,undef,undef,undef,undef,undef,undef,undef,undef,undef,undef,undef,undef,undef,undef,undef,undef,undef,undef,undef],defers:=[]} W:=by
   have n1:(FP w.heap.size Bx) ⟨1,0⟩=some ⟨w.heap.size,2,2,none⟩:=rfl
   have n2:(FP w.heap.size Bx) ⟨2,0⟩=some ⟨w.heap.size+1,1,1,none⟩:=rfl
   have n3:(FP w.heap.size Bx) ⟨3,0⟩=some ⟨w.heap.size+1+1,1,1,none⟩:=rfl
   have n4:(FP w.heap.size Bx) ⟨4,0⟩=some ⟨Bx,2,2,none⟩:=rfl
   have n5:(FP w.heap.size Bx) ⟨5,0⟩=some ⟨w.heap.size+1+1+1,1,1,none⟩:=rfl
   have rp:∀(id:Id) (B:qM),(FP w.heap.size Bx) id=some B->B.k=none->cQ Tryz.prog W (fun b=>b<w.heap.size) (FP w.heap.size Bx) (.ptr id 0 0) (.pointer (some ⟨B.b,0,none⟩)):=fun id B h hk=>by
    have:=cQ.ptr (P:=Tryz.prog) (w:=W) (D:=fun b=>b<w.heap.size) id 0 0 B h hk
    simpa using this
   have ri:∀n:Int,cQ Tryz.prog W (fun b=>b<w.heap.size) (FP w.heap.size Bx) (.int .i64 n) (.int .i64 n):=fun n=>.ez _ _ (.int _ _)
   have hA1:jk Tryz.prog W (fun b=>b<w.heap.size) (.agg [.sl (l.map ah)]) (.agg #[.slice (some ⟨b,o,none⟩) l.length cp]):=.agg _ _ (fun _=>.slice (some ⟨b,o,none⟩) l.length cp) rfl (fun a ha=>by simp at ha;rw[ha];rfl) (fun j hj=>by match j,hj with|0,_=>rfl|j+1,hj=>simp at hj) (fun j a ha=>by match j,ha with|0,ha=>simp at ha;subst ha;exact hAW|j+1,ha=>simp at ha)
   refine⟨⟨Nat.le_refl _,fun b hb=>Nat.lt_of_lt_of_le hb hB.size,fun id r hg=>?_,fun id jW r r' B B' h _ hw=>?_⟩,fun id hid=>?_,fun t=>?_,rfl⟩
   ·replace hg:Kd s l x0 x1 id=some r:=hg
    unfold Kd at hg
    split at hg
    ·rename_i e;subst e;injection hg with hg;subst hg
     exact⟨_,n1,BD (cs:=aa s) rfl bT1 rfl rfl rfl (fun a ha=>by simp[aa]at ha;rcases ha with rfl|rfl<;>rfl) (fun j a ha=>⟨_,hT0 j (List.getElem?_eq_some_iff.1 ha).1,.ez _ _ (hT1 j a ha)⟩),fun h=>(by cases h),fun h=>(by cases h)⟩
    ·split at hg
     ·rename_i e;subst e;injection hg with hg;subst hg
      exact⟨_,n2,BD (cs:=[.sl (l.map ah)]) rfl bA1 rfl rfl rfl (fun a ha=>by simp at ha;rw[ha];rfl) (fun j a ha=>by match j,ha with|0,ha=>simp at ha;subst ha;exact⟨_,rfl,.ez _ _ hAW⟩|j+1,ha=>simp at ha),fun h=>(by cases h),fun h=>(by cases h)⟩
     ·split at hg
      ·rename_i e;subst e;injection hg with hg;subst hg
       exact⟨_,n4,BD (cs:=[.int .i64 (x0:Int),.int .i64 (x1:Int)]) rfl bX rfl rfl rfl (fun a ha=>by simp at ha;rcases ha with rfl|rfl<;>rfl) (fun j a ha=>by match j,ha with|0,ha=>simp at ha;subst ha;exact⟨_,rfl,ri _⟩|1,ha=>simp at ha;subst ha;exact⟨_,rfl,ri _⟩|j+2,ha=>simp at ha),fun h=>(by cases h),fun h=>(by cases h)⟩
      ·cases hg
   ·exfalso
    replace h:Kd s l x0 x1 id=some r:=h
    unfold Kd at h
    split at h
    ·injection h with h;subst h;cases hw
    ·split at h
     ·injection h with h;subst h;cases hw
     ·split at h
      ·injection h with h;subst h;cases hw
      ·cases h
   ·left
    unfold FP at hid
    repeat' (split at hid)
    all_goals first|(rename_i e;subst e;exact Nat.zero_lt_one)|exact absurd rfl hid
   ·match t with
    |0=>exact .ez _ _ hTW
    |1=>exact .ez _ _ hA1
    |2=>exact rp _ _ n1 rfl
    |3=>exact rp _ _ n2 rfl
    |4=>exact .ez _ _ .cK
    |5=>exact rp _ _ n3 rfl
    |6=>exact rp _ _ n4 rfl
    |7=>exact ri _
    |8=>exact cQ.undef
    |9=>exact .ez _ _ hA1
    |10=>exact .fn _ _ _ (fun _=>.pointer (some ⟨w.heap.size+1+1+1,0,none⟩)) (by kernel_rfl) rfl (fun j hj=>by match j,hj with|0,_=>rfl|j+1,hj=>simp at hj) (fun j a ha=>by match j,ha with|0,ha=>simp at ha;subst ha;exact rp _ _ n5 rfl|j+1,ha=>simp at ha)
    |11=>exact .agg _ _ (fun j=>if j=0 then .int .i64 (x0:Int)else .int .i64 (x1:Int)) rfl (fun a ha=>by simp at ha;rcases ha with rfl|rfl<;>rfl) (fun j hj=>by match j,hj with|0,_=>rfl|1,_=>rfl|j+2,hj=>simp at hj;omega) (fun j a ha=>by match j,ha with|0,ha=>simp at ha;subst ha;exact ri _|1,ha=>simp at ha;subst ha;exact ri _|j+2,ha=>simp at ha)
    |12=>exact ri _
    |13=>exact cQ.undef
    |14=>exact cQ.undef
    |15=>exact cQ.undef
    |16=>exact cQ.undef
    |17=>exact cQ.undef
    |18=>exact cQ.undef
    |19=>exact cQ.undef
    |20=>exact cQ.undef
    |21=>exact cQ.undef
    |22=>exact cQ.undef
    |23=>exact cQ.undef
    |24=>exact cQ.undef
    |25=>exact cQ.undef
    |26=>exact cQ.undef
    |27=>exact cQ.undef
    |28=>exact cQ.undef
    |29=>exact cQ.undef
    |30=>exact cQ.undef
    |31=>exact cQ.undef
    |32=>exact cQ.undef
    |33=>exact cQ.undef
    |34=>exact cQ.undef
    |35=>exact cQ.undef
    |36=>exact cQ.undef
    |37=>exact cQ.undef
    |38=>exact cQ.undef
    |39=>exact cQ.undef
    |40=>exact cQ.undef
    |41=>exact cQ.undef
    |t+42=>exact cQ.undef
  have hV:wpOps (Call Tryz.prog) true ?vl (fun e _=>e 5=.ptr ⟨3,0⟩ 0 0/\e 6=.ptr ⟨4,0⟩ 0 0/\e 8=.int .i64 (gM s (bH l x0).bU x2 (bH l x1).bU)) (Lg s l x0 x1 x2) ⟨Kd s l x0 x1,1⟩:= ?hv
  gi_wp2
  refine wR mixed (rrE (nt:=42) (site0:=200005000)) (G7 (by kernel_rfl)) (lJ (fun _ _ _ _ h=>gw mixed h) oj (fun _ _ h=>h) _ _ _ hV) ee ?_
  rintro e1 σ1 ⟨tm,df⟩ w3 D1 ι1 ⟨h5,h6,h8⟩ T1 K4 AO
  case hv=>
   refine Bv ?_
   have e0:=gy Mc
   have e1:=gy uN
   (repeat(first|((repeat(revert hN;revert N;apply Pn.out));refine wk (tw @e0 (tw @e1 (tw @Lg.eq_1 (tw @Kd.eq_1 (tw @ah.eq_1 @aa.eq_1))))) ?_;(repeat(refine Pn.mk ?_;intro N hN)))|((try apply Or.inl);refine⟨_,ak.x (Qg) (sd (tw @e0 (tw @e1 (tw @Lg.eq_1 (tw @Kd.eq_1 (tw @ah.eq_1 @aa.eq_1)))))),?_⟩;refine hN _ _ ?_;clear hN N)))
   exact⟨sd @Lg.eq_1,sd @Lg.eq_1,sd @Lg.eq_1⟩
  ·have yn:Below W.heap.size W w3:=T1.below
   have OY:∀id B,FP w.heap.size Bx id=some B->ι1 id=some B:=T1.names
   have p5:tm.getD 5 undef=.pointer (some ⟨w.heap.size+1+1,0,none⟩):=by
    have g:=K4.env 5
    rw[h5]at g
    obtain⟨B,e,hB,_⟩:=iJ g
    have h:=OY ⟨3,0⟩ ⟨w.heap.size+1+1,1,1,none⟩ rfl
    rw[h]at hB;injection hB with hB;subst hB
    simpa using e
   have p6:tm.getD 6 undef=.pointer (some ⟨Bx,0,none⟩):=by
    have g:=K4.env 6
    rw[h6]at g
    obtain⟨B,e,hB,_⟩:=iJ g
    have h:=OY ⟨4,0⟩ ⟨Bx,2,2,none⟩ rfl
    rw[h]at hB;injection hB with hB;subst hB
    simpa using e
   have p8:tm.getD 8 undef=.int .i64 (gM s (bH l x0).bU x2 (bH l x1).bU):=by
    have g:=K4.env 8
    rw[h8]at g
    exact dz g
   have eU:=K4.size
   obtain⟨tl⟩:=tm
   obtain⟨f,htl,hf⟩:∃f:Nat->Value,tl=[f 0,f 1,f 2,f 3,f 4,f 5,f 6,f 7,f 8,f 9,f 10,f 11,f 12,f 13,f 14,f 15,f 16,f 17,f 18,f 19,f 20,f 21,f 22,f 23,f 24,f 25,f 26,f 27,f 28,f 29,f 30,f 31,f 32,f 33,f 34,f 35,f 36,f 37,f 38,f 39,f 40,f 41]/\∀i,f i=(⟨tl⟩:Array Value).getD i undef:=by
    refine⟨fun i=>(⟨tl⟩:Array Value).getD i undef,?_,fun _=>rfl⟩
    have h:=GU tl undef
    rw[show tl.length=42 from eU]at h
    exact h
   rw[<-hf]at p5 p6 p8
   have Rn:df=[]:=AO
   subst Rn
   clear hf K4 ee hV
   subst htl
   rw[p5,p6,p8]
   have Qs:=hv.kept (grown_of yn) (by simp)
   have CD:=kM.kept (grown_of yn) (by rcases kM.2 with⟨e,_⟩|⟨_,_,_,e,_⟩<;>rw[e]<;>simp[Value.ownBlock])
   have hc3:=Qs.cell
   have hn3:w.heap.size<=w3.heap.size:=Nat.le_trans hB.size yn.size
   have eX0:w3.cell? ⟨Bx,0,none⟩=some (.int .i64 (x0:Int)):=(yn.cell (p:=⟨Bx,0,none⟩) (Array.getElem?_eq_some_iff.1 bX).1).trans cX0
   have eX1:w3.cell? ⟨Bx,1,none⟩=some (.int .i64 (x1:Int)):=(yn.cell (p:=⟨Bx,1,none⟩) (Array.getElem?_eq_some_iff.1 bX).1).trans cX1
   have lx:(lX s l pre).length<=2097152:=by
    have h1:=FH s l pre
    have h2:=ze l l.length
    omega
   have hKF:KeepsFrom (w.heap.size+4) W w3:=⟨yn.size,fun k o _ hk _=>(yn.block k (Array.getElem?_eq_some_iff.1 hk).1).trans hk⟩
   have hKT:gu w.heap.size W w3:=gu.of yn
   have QN:w3.heap[w.heap.size+1]? = _:=(yn.block _ bA1.lt).trans bA1
   have QO:=(yn.block _ (Array.getElem?_eq_some_iff.1 bT1).1).trans bT1
   by_cases jo:0<gM s (bH l x0).bU x2 (bH l x1).bU
   ·have tV:lX s l (pre++[⟨(x0,x1,x2),Mc,uN,xp⟩])=lX s l pre++[⟨x0,x1,gM s (bH l x0).bU x2 (bH l x1).bU⟩]:=by
     rw[uo];simp only[vG,if_pos jo]
    gi_wp2_with (gi_at_builtin;refine wpListIn_append_own _ rfl _ _ 105 rfl w.heap.size 212 i0 (.agg #[.int .i64 0,.int .i64 0,.int .i64 0]) 3 24 (by kernel_rfl) hi Fl uO jw rfl (by decide) _ _ _ rfl (CD.alloc _) ⟨w3.heap.size,0,none⟩ 1 1 [.int .i64 (x0:Int),.int .i64 (x1:Int),.int .i64 (gM s (bH l x0).bU x2 (bH l x1).bU)] rfl rfl (sn _ _ _ _ _) (by simp[Value.oneCell']) (by unfold maxLen;omega) ad (by simp;omega) ?_;intro v' w4 KA Cz _;obtain⟨g',cap',rfl⟩:=ownsRow_succ KA;obtain⟨DV,NC,tK,rR,tH⟩:=Qs.appended (by decide) CD hn3 ad KA Cz;have H5:=gu.app Qs CD Cz tH;have qo:=DV.cell;have OC:=DV.frozen)
    exact⟨hKF.trans (rR.from _),hKT.trans H5,⟨⟨_,NC,by rw[tV,FG,List.length_append];exact tK,by rw[tV];simp⟩,(H5.2.1 _ _ _ _ QN (by decide) (by decide)).trans QN,(H5.2.1 _ _ _ _ QO (by decide) (by decide)).trans QO⟩,hB.trans ((yn.mono hB.size).trans tH)⟩
   ·have tV:lX s l (pre++[⟨(x0,x1,x2),Mc,uN,xp⟩])=lX s l pre:=by
     rw[uo];simp only[vG,if_neg jo,List.append_nil]
    gi_wp2
    exact⟨hKF,hKT,⟨⟨v,Qs,by rw[tV];exact CD,by rw[tV];exact hnil⟩,QN,QO⟩,hB.trans (yn.mono hB.size)⟩
 case done=>
  rintro D ys W hD CH ⟨⟨⟨v,hv,kM,hnil⟩,_⟩,hB⟩ hK
  have hc:=hv.cell
  have Ff:lX s l ys=cI s l:=by rw[FL,<-CH];rfl
  rw[Ff]at kM hnil
  gi_wp2
  refine⟨by simp,.inl ⟨_,_,rfl,run_takeDeferred hK,?_⟩⟩
  exact⟨_,results_tmp rfl _ _ _,v,rfl,ownsRow_putObj kM _ hK rfl,hnil,hB.trans (belowK_b (w:=w) (Nat.le_refl _) W D _ _ ad hK rfl rfl)⟩
 case stop=>
  rintro D c pre W _ _ h _
  exact h.elim
end Go.Proofs.YtphenfakmdknlaaGreat.V

namespace Go.Proofs.YtphenfakmdknlaaGreat.V
open Go.RowKit Go.Shelf
theorem Ca:∀{bs:List PB} {i j:Nat} {b:PB},bs[i]? =some b->j<3->(Ip bs)[i*3+j]? =([.int .i64 b.a,.int .i64 b.b,.int .i64 b.s]:List Value)[j]?
 |c::bs,0,j,b,h,hj=>by
  simp at h;subst h
  simp only[Ip,List.flatMap_cons,Nat.zero_mul,Nat.zero_add]
  rw[List.getElem?_append_left (by simpa using hj)]
 |c::bs,i+1,j,b,h,hj=>by
  simp only[List.getElem?_cons_succ]at h
  have:=Ca (bs:=bs) (i:=i) (j:=j) h hj
  simp only[Ip,List.flatMap_cons]at this ⊢
  rw[List.getElem?_append_right (by simp;omega),<-this]
  congr 1
  simp;omega
theorem pr {P:Program} {w:World} {D:Nat->Prop} {rows:List (List AV)} {v:Value} (h:jk P w D (.sl rows) v):∃A n c,v=.slice A n c:=by
 cases h with
 |zP a c _=>exact⟨_,_,_,rfl⟩
 |sl=>exact⟨_,_,_,rfl⟩
theorem oR {P:Program} {w:World} {D:Nat->Prop} {ι:Names} {rows:List (List AV)} {v:Value} (h:cQ P w D ι (.sl rows) v):jk P w D (.sl rows) v:=by
 cases h with
 |ez _ _ h=>exact h
theorem JD {P:Program} {w:World} {D:Nat->Prop} {l:List ai} {v:Value} (h:jk P w D (.sl (l.map ah)) v):nN w v l:=by
 generalize hr:l.map ah=rows at h
 cases h with
 |zP a c hc=>
  have:l=[]:=by simpa using hr
  subst this
  exact⟨a,c,rfl,⟨Nat.zero_le _,hc⟩,.inl rfl⟩
 |sl _ b o n c sz vs h1 h2 h3 h4 h5 h5' h6 h7=>
  have hn:n=l.length:=by rw[<-h1,<-hr];simp
  subst hn
  refine⟨some ⟨b,o,none⟩,c,rfl,⟨h2,h3⟩,?_⟩
  by_cases hl:l=[]
  ·exact .inl hl
  refine .inr ⟨b,o,rfl,fun i hi=>?_⟩
  have hg:rows[i]? =some (ah (bH l i)):=by rw[<-hr];exact gy hi
  have eU:sz=3:=by rw[<-h5 _ (List.mem_of_getElem? hg)];rfl
  subst eU
  have k:∀(j:Nat) (x:Int),(ah (bH l i))[j]? =some (.int .i64 x)->j<3->w.cell? ⟨b,o+(i*3+j),none⟩=some (.int .i64 x):=fun j x hj h3=>by
   have:=h7 i j _ _ hg hj
   rw[h6 i j hi h3,dz (.ez (ι:=fun _=>none) _ _ this)]
  exact⟨k 0 _ rfl ad,k 1 _ rfl ad,k 2 _ rfl ad⟩
theorem Lf:K0:=by
 intro s l hS hA n
 refine gr ?_
 intro hs D ι w vs S U A
 obtain⟨u0,Qr,r0⟩:=A.2 0 _ rfl
 obtain⟨u1,CF,r1⟩:=A.2 1 _ rfl
 have ea:∀b,D b->b<w.heap.size:=S.dead
 obtain⟨v0,f0,rfl,Fl,_,Qj,R5⟩:=gV r0
 obtain⟨v1,f1,rfl,uO,_,OC,Gv⟩:=gV r1
 have g0:=oR (R5 0 _ rfl)
 have g1:=oR (R5 1 _ rfl)
 have a0:=oR (Gv 0 _ rfl)
 obtain⟨Ag,ng,cg,eg⟩:=pr g0
 obtain⟨At,nt,ct,et⟩:=pr g1
 have e0:v0= #[.slice Ag ng cg,.slice At nt ct]:=by
  obtain⟨vl⟩:=v0
  have q0:=Qj 0 (by simp[aa])
  have q1:=Qj 1 (by simp[aa])
  rw[eg]at q0;rw[et]at q1
  match vl,Fl with
  |[a,b],_=>simp at q0 q1;rw[q0,q1]
 have e1:v1= #[f1 0]:=by
  obtain⟨vl⟩:=v1
  have q0:=OC 0 (by simp)
  match vl,uO with
  |[a],_=>simp at q0;rw[q0]
 subst e0 e1
 have evs:vs= #[.agg #[.slice Ag ng cg,.slice At nt ct],.agg #[f1 0]]:=by
  obtain⟨vl⟩:=vs
  have hz:=A.1
  match vl,hz with
  |[a,b],_=>simp at Qr CF;rw[Qr,CF]
 subst evs
 have up:∀{a v},jk Tryz.prog w D a v->jk Tryz.prog w (fun b=>b<w.heap.size) a v:=fun h=>h.frame (fun _ _=>rfl) ea
 have hT:jk Tryz.prog w (fun b=>b<w.heap.size) (.agg (aa s)) (.agg #[.slice Ag ng cg,.slice At nt ct]):=
  .agg _ _ f0 Fl (fun a ha=>by simp[aa]at ha;rcases ha with rfl|rfl<;>rfl) Qj (fun j a ha=>by
   match j,ha with
   |0,ha=>simp[aa]at ha;subst ha;exact up g0
   |1,ha=>simp[aa]at ha;subst ha;exact up g1
   |j+2,ha=>simp[aa]at ha)
 refine(callsIn_wide.1 (FK s l hS.form hA w Ag At ng cg nt ct (f1 0) hT (JD a0))).mono ?_
 rintro e W' ⟨v,rfl,⟨hl,hown⟩,hnil,hB⟩
 have S':fN Tryz.prog hs D ι (fun _=>none) W':=S.stay (fun b hb=>hB.block b hb) hB.size (fun _ h=>h) (fun b hb=>Nat.lt_of_lt_of_le (ea b hb) hB.size) (fun _ h=>.inl h) (fun _ _ h=>h)
 have T:Step hs D ι w D ι W':=Step.stay S (fun b hb=>hB.block b hb) hB.size hB.os hB.tape hB.output (fun _ h=>h) (fun _ h=>.inl h) (fun _ _ h=>h)
 rcases hown with⟨rfl,h0⟩|⟨gb,cap,cur,rfl,OG,hblk,hle,Gd,dx,lT⟩
 ·have Ov:cI s l=[]:=hnil.1 rfl
  exact⟨.cK,_,n,D,ι,_,rfl,⟨.cK,sF _ _,by rw[Ov];rfl⟩,T,S',U,Nat.le_refl _,.ez _ _ .cK⟩
 ·have Ov:cI s l≠[]:=fun h=>by have:=hnil.2 h;cases this
  have lQ:ι ⟨0,n⟩=none:=fresh U (fun h=>h)
  have km:∀{a v},cQ Tryz.prog W' D ι a v->cQ Tryz.prog W' D (kd ι ⟨0,n⟩ ⟨gb,3,cap*3,none⟩) a v:=fun h=>h.frame (fun _ _=>rfl) (fun _ h=>h) (fB lQ)
  have hR:gL Tryz.prog W' D (kd ι ⟨0,n⟩ ⟨gb,3,cap*3,none⟩) ⟨gb,3,cap*3,none⟩ ⟨true,3,(cI s l).map aZ⟩:=by
   refine kC.obj ⟨rfl,⟨cur,_,hblk,dx⟩,?_,fun cs hc=>?_,fun cs hc a ha=>?_,fun i j cs a hi hj=>?_⟩ rfl
   ·simp only[List.length_map];exact Nat.mul_le_mul_right 3 hle
   ·obtain⟨b,_,rfl⟩:=List.mem_map.1 hc;rfl
   ·obtain⟨b,_,rfl⟩:=List.mem_map.1 hc
    simp[aZ]at ha
    rcases ha with rfl|rfl|rfl<;>rfl
   ·rw[List.getElem?_map]at hi
    simp only[Option.map_eq_some_iff]at hi
    obtain⟨b,hb,rfl⟩:=hi
    have hj3:j<3:=by have:=(List.getElem?_eq_some_iff.1 hj).1;simpa[aZ]using this
    have rQ:=(List.getElem?_eq_some_iff.1 hb).1
    have hg:=Ca hb hj3
    rw[<-lT,List.getElem?_take,if_pos ad]at hg
    have key:∀x:Value,([.int .i64 b.a,.int .i64 b.b,.int .i64 b.s]:List Value)[j]? =some x->W'.cell? ⟨gb,i*3+j,none⟩=some x:=fun x hx=>by
     rw[hx]at hg
     have e:W'.cell? ⟨gb,i*3+j,none⟩=cur[i*3+j]? :=by
      unfold World.cell?
      rw[show W'.heap[(⟨gb,i*3+j,none⟩:Addr).block]? = _ from hblk]
      rfl
     rw[e,<-Array.getElem?_toList];exact hg
    match j,hj with
    |0,hj=>simp[aZ]at hj;subst hj;exact⟨_,key _ rfl,.ez _ _ (.int _ _)⟩
    |1,hj=>simp[aZ]at hj;subst hj;exact⟨_,key _ rfl,.ez _ _ (.int _ _)⟩
    |2,hj=>simp[aZ]at hj;subst hj;exact⟨_,key _ rfl,.ez _ _ (.int _ _)⟩
    |j+3,hj=>simp[aZ]at hj
  have S2:=fN.add (r:=⟨true,3,(cI s l).map aZ⟩) S S' lQ OG hR
  refine⟨.own ⟨0,n⟩ 0 (cI s l).length,bC (fun _=>none) ⟨0,n⟩ ⟨true,3,(cI s l).map aZ⟩,n+1,D,kd ι ⟨0,n⟩ ⟨gb,3,cap*3,none⟩,_,rfl,⟨JR (cI s l),?_,rfl⟩,T.trans (Step.stay S' (fun _ _=>rfl) (Nat.le_refl _) rfl rfl rfl (fun _ h=>h) (fun _ h=>.inl h) (fB lQ)),S2,U.upd.next,Nat.le_succ _,.own _ _ _ _ _ _ (eh _ _ _) rfl hle (.inr (by simp)) (by simp) Gd⟩
  unfold JR
  rw[if_neg Ov]
  have hg:(bC (fun _=>none) (⟨0,n⟩:Id) ⟨true,3,(cI s l).map aZ⟩:Rows) ⟨0,n⟩=some ⟨true,3,(cI s l).map aZ⟩:=by simp[bC]
  have:=fa (n:=5) hg rfl fun b=>Cp _ 4 b
  simpa using this
end Go.Proofs.YtphenfakmdknlaaGreat.V

namespace Go.Proofs.YtphenfakmdknlaaGreat.V
open Go.RowKit
attribute [local irreducible] dJ wpOps e8 Call
attribute [local go_sem] ax eB dY eJ eI cJ upd bD K.av bW AV.cells AV.cell rowOf rowsOf part ld rowAt bC bx cU de fj bf cC dv eO er cL dm cw cu cZ da bl aI bZ bj ck cj di dn dj bY bo cz dh bh au cq bJ fh aT bV bm aH cS aQ cV AV.undef aV bc db dd cY dc bQ du dw bG dq dp cm cr List.getD_cons_zero List.getD_cons_succ List.getD_nil List.all_cons List.all_nil Bool.and_true Bool.true_and Bool.and_self Bool.not_true Bool.not_false Option.map_some Option.map_none Option.bind_some Option.bind_none List.length_cons List.length_nil List.take_succ_cons List.take_zero List.take_nil List.drop_succ_cons List.drop_zero List.drop_nil List.head?_cons List.map_cons List.map_nil List.getElem?_cons_zero List.getElem?_cons_succ List.cons_append List.nil_append List.append_nil List.length_map List.set_cons_zero List.set_cons_succ Nat.reduceMul eq_self Int.toNat_natCast Int.natCast_nonneg and_self true_and and_true decide_true decide_false Bool.false_eq_true Nat.zero_add Nat.add_zero List.contains_cons List.contains_nil Bool.or_false Bool.false_or beq_self_eq_true Nat.reduceBEq ne_eq not_true_eq_false not_false_eq_true Id.mk.injEq false_and and_false Nat.reduceLT Int.reduceLE Int.reduceLT Int.reduceToNat Int.reduceNeg Int.reduceAdd Nat.le_refl List.length_append beq_true beq_false Bool.not_eq_eq_eq_not or_false false_or dG ab ae az aU bu aC aP aE aJ cD aX
def qAt (ps:List br) (i:Nat):br:=ps.getD i ⟨0,0⟩
theorem Sw {ps:List br} {i:Nat} (h:i<ps.length):qAt ps i=ps[i]:=by simp[qAt,List.getD_eq_getElem?_getD,h]
def RisQ (ps:List br):Prop:=ps.Pairwise fun a b=>nV a b=true
end Go.Proofs.YtphenfakmdknlaaGreat.V

namespace Go.Proofs.YtphenfakmdknlaaGreat.V
open Go.RowKit Go.Shelf Go.Lib Go.Sort
instance:Inhabited br:=⟨⟨0,0⟩⟩
variable {P:Program} {w:World} {D:Nat->Prop} {ι:Names}
theorem Hj {vs:Array Value} (h:eP P w D ι [] vs):vs= #[]:=Array.eq_empty_of_size_eq_zero h.1
theorem uY {a:AV} {r:List AV} {vs:Array Value} (h:eP P w D ι (a::r) vs):∃u us,vs=(u::us).toArray/\cQ P w D ι a u/\eP P w D ι r us.toArray:=by
 obtain⟨h1,h2⟩:=h
 obtain⟨l⟩:=vs
 cases l with
 |nil=>simp at h1
 |cons u us=>
  obtain⟨u',hu,hr⟩:=h2 0 a rfl
  simp at hu;subst hu
  exact⟨u,us,rfl,hr,by simpa using h1,fun j b hj=>by
   obtain⟨v,hv,jV⟩:=h2 (j+1) b (by simpa using hj)
   exact⟨v,by simpa using hv,jV⟩⟩
end Go.Proofs.YtphenfakmdknlaaGreat.V

namespace Go.Proofs
open Go.Shelf
def Tryz.BI:Go.Shelf.Ren:=⟨fun|6=>97|15=>204|14=>203|28=>293|29=>294|20=>285|21=>286|22=>287|23=>288|24=>289|25=>290|26=>291|27=>292|46=>328|47=>329|48=>330|49=>331|50=>332|57=>353|n=>n,fun|22=>50|24=>67|25=>149|3=>3|39=>281|0=>0|53=>369|55=>283|4=>4|46=>363|45=>362|50=>302|5=>5|9=>9|66=>400|70=>404|76=>420|77=>234|n=>n,fun|n=>n⟩
theorem Tryz.MH:Go.Proofs.SlLaysF.n6 Tryz.prog Tryz.BI:={
 mixed:=by kernel_rfl
 f6:=⟨Tryz.f97.name,by decide,Tryz.func97.trans (congrArg some (by kernel_rfl))⟩
 f14:=⟨Tryz.f203.name,by decide,Tryz.func203.trans (congrArg some (by kernel_rfl))⟩
 f15:=Tryz.func204.trans (congrArg some (by kernel_rfl))
 f20:=⟨Tryz.f285.name,by decide,Tryz.func285.trans (congrArg some (by kernel_rfl))⟩
 f21:=⟨Tryz.f286.name,by decide,Tryz.func286.trans (congrArg some (by kernel_rfl))⟩
 f22:=⟨Tryz.f287.name,by decide,Tryz.func287.trans (congrArg some (by kernel_rfl))⟩
 f23:=⟨Tryz.f288.name,by decide,Tryz.func288.trans (congrArg some (by kernel_rfl))⟩
 f24:=⟨Tryz.f289.name,by decide,Tryz.func289.trans (congrArg some (by kernel_rfl))⟩
 f25:=⟨Tryz.f290.name,by decide,Tryz.func290.trans (congrArg some (by kernel_rfl))⟩
 f26:=⟨Tryz.f291.name,by decide,Tryz.func291.trans (congrArg some (by kernel_rfl))⟩
 f27:=⟨Tryz.f292.name,by decide,Tryz.func292.trans (congrArg some (by kernel_rfl))⟩
 f28:=Tryz.func293.trans (congrArg some (by kernel_rfl))
 f29:=Tryz.func294.trans (congrArg some (by kernel_rfl))
 f46:=⟨Tryz.f328.name,by decide,Tryz.func328.trans (congrArg some (by kernel_rfl))⟩
 f47:=Tryz.func329.trans (congrArg some (by kernel_rfl))
 f48:=Tryz.func330.trans (congrArg some (by kernel_rfl))
 f49:=⟨Tryz.f331.name,by decide,Tryz.func331.trans (congrArg some (by kernel_rfl))⟩
 f50:=⟨Tryz.f332.name,by decide,Tryz.func332.trans (congrArg some (by kernel_rfl))⟩
 f57:=⟨Tryz.f353.name,by decide,Tryz.func353.trans (congrArg some (by kernel_rfl))⟩
 t0:=Tryz.underlying0
 a0:=Tryz.isAgg0
 z0:=Tryz.sizeOf0
 v0:=Tryz.zeroValue0
 t3:=Tryz.underlying3
 a3:=Tryz.isAgg3
 z3:=Tryz.sizeOf3
 v3:=Tryz.zeroValue3
 t4:=Tryz.underlying4
 a4:=Tryz.isAgg4
 z4:=Tryz.sizeOf4
 v4:=Tryz.zeroValue4
 t5:=Tryz.underlying5
 a5:=Tryz.isAgg5
 z5:=Tryz.sizeOf5
 v5:=Tryz.zeroValue5
 t9:=Tryz.underlying9
 a9:=Tryz.isAgg9
 z9:=Tryz.sizeOf9
 v9:=Tryz.zeroValue9
 t22:=Tryz.underlying50
 a22:=Tryz.isAgg50
 z22:=Tryz.sizeOf50
 v22:=Tryz.zeroValue50
 a24:=Tryz.isAgg67
 z24:=Tryz.sizeOf67
 t25:=Tryz.underlying149
 a25:=Tryz.isAgg149
 z25:=Tryz.sizeOf149
 v25:=Tryz.zeroValue149
 t39:=Tryz.underlying281
 a39:=Tryz.isAgg281
 z39:=Tryz.sizeOf281
 v39:=Tryz.zeroValue281
 t45:=Tryz.underlying362
 a45:=Tryz.isAgg362
 z45:=Tryz.sizeOf362
 v45:=Tryz.zeroValue362
 t46:=Tryz.underlying363
 a46:=Tryz.isAgg363
 z46:=Tryz.sizeOf363
 v46:=Tryz.zeroValue363
 t50:=Tryz.underlying302
 a50:=Tryz.isAgg302
 z50:=Tryz.sizeOf302
 v50:=Tryz.zeroValue302
 t53:=Tryz.underlying369
 a53:=Tryz.isAgg369
 z53:=Tryz.sizeOf369
 v53:=Tryz.zeroValue369
 t55:=Tryz.underlying283
 a55:=Tryz.isAgg283
 z55:=Tryz.sizeOf283
 v55:=Tryz.zeroValue283
 t66:=Tryz.underlying400
 a66:=Tryz.isAgg400
 z66:=Tryz.sizeOf400
 v66:=Tryz.zeroValue400
 t70:=Tryz.underlying404
 a70:=Tryz.isAgg404
 z70:=Tryz.sizeOf404
 v70:=Tryz.zeroValue404
 t76:=Tryz.underlying420
 a76:=Tryz.isAgg420
 z76:=Tryz.sizeOf420
 v76:=Tryz.zeroValue420
 t77:=Tryz.underlying234
 a77:=Tryz.isAgg234
 z77:=Tryz.sizeOf234
 v77:=Tryz.zeroValue234}
end Go.Proofs

namespace Go.Proofs.YtphenfakmdknlaaGreat.V
open Go.RowKit Go.Shelf Go.Lib Go.Sort
theorem qU (w:World) (a b:Int):Calls Tryz.prog 205 #[.int .i64 a,.int .i64 b] w fun e w'=>e=.returned (.int .i64 (kK a b))/\w=w':=by
 go_enter Tryz.func205,Tryz.ntmps205
 go_wp2_with go_in
 all_goals
  go_ret
  exact⟨zo (by unfold kK;split<;>(try split)<;>omega),rfl⟩
def Grown (w w':World):Prop:=∃(q:Nat) (os:Array Obj),w'=Go.Sort.grow (w.drewN q) os
theorem Grown.refl (w:World):Grown w w:=⟨0, #[],by rw[grow_empty];rfl⟩
instance:Inhabited ai:=⟨⟨⟨0,0⟩,0⟩⟩
variable {P:Program} {w:World} {D:Nat->Prop} {ι:Names}
end Go.Proofs.YtphenfakmdknlaaGreat.V

namespace Go.Proofs.YtphenfakmdknlaaGreat.V
open Go.RowKit
attribute [local irreducible] dJ wpOps e8 Call
attribute [local go_sem] ax eB dY eJ eI cJ upd bD K.av bW AV.cells AV.cell rowOf rowsOf part ld rowAt bC bx cU de fj bf cC dv eO er cL dm cw cu cZ da bl aI bZ bj ck cj di dn dj bY bo cz dh bh au cq bJ fh aT bV bm aH cS aQ cV AV.undef aV bc db dd cY dc bQ du dw bG dq dp cm cr List.getD_cons_zero List.getD_cons_succ List.getD_nil List.all_cons List.all_nil Bool.and_true Bool.true_and Bool.and_self Bool.not_true Bool.not_false Option.map_some Option.map_none Option.bind_some Option.bind_none List.length_cons List.length_nil List.take_succ_cons List.take_zero List.take_nil List.drop_succ_cons List.drop_zero List.drop_nil List.head?_cons List.map_cons List.map_nil List.getElem?_cons_zero List.getElem?_cons_succ List.cons_append List.nil_append List.append_nil List.length_map List.set_cons_zero List.set_cons_succ Nat.reduceMul eq_self Int.toNat_natCast Int.natCast_nonneg and_self true_and and_true decide_true decide_false Bool.false_eq_true Nat.zero_add Nat.add_zero List.contains_cons List.contains_nil Bool.or_false Bool.false_or beq_self_eq_true Nat.reduceBEq ne_eq not_true_eq_false not_false_eq_true Id.mk.injEq false_and and_false Nat.reduceLT Int.reduceLE Int.reduceLT Int.reduceToNat Int.reduceNeg Int.reduceAdd Nat.le_refl List.length_append beq_true beq_false Bool.not_eq_eq_eq_not or_false false_or dG ab ae az aU bu aC aP aE aJ cD aX
end Go.Proofs.YtphenfakmdknlaaGreat.V

namespace Go.Proofs.YtphenfakmdknlaaGreat.V
open Go.RowKit
variable {P:Program} {w w':World} {D D':Nat->Prop} {ι ι':Names} {hs:Nat} {g:Rows}
def QG (w:World) (rr:Nat):Prop:=∃m s seen c,w.heap[rr]? =some (.mapIter m s seen c)
structure Lft (P:Program) (w:World) (D:Nat->Prop) (ι:Names) (m:MK) (L:List MapEntry) (left:List (List AV)):Prop where
 len:left.length=L.length
 at_:∀(i:Nat) (cs:List AV),left[i]? =some cs->∃(e:MapEntry) (kv vv:AV),L[i]? =some e/\part m.ka m.ks cs=some kv/\cs[m.ks]? =some vv/\cQ P w D ι kv e.key/\cQ P w D ι vv e.val
theorem vW {α β:Type} {l:List α} {k:List β} {i j:Nat} {x:α} (hl:l.length=k.length) (h:(l.eraseIdx i)[j]? =some x):∃q:Nat,l[q]? =some x/\(k.eraseIdx i)[j]? =k[q]? :=by
 rw[List.getElem?_eraseIdx]at h
 split at h
 ·rename_i hj;exact⟨j,h,by rw[List.getElem?_eraseIdx,if_pos hj]⟩
 ·rename_i hj;exact⟨j+1,h,by rw[List.getElem?_eraseIdx,if_neg hj]⟩
def CS (P:Program) (nt:Nat) (c:Code) (W:(Ex->Env->ar->Prop)->Env->ar->Prop):Prop:=
 ∀(hs:Nat) (Q:Ex->Env->ar->Prop) (env:Env) (σ:ar) (a:Act) (w:World) (D:Nat->Prop) (ι:Names) (Q':Exit->Act->World->Prop),W Q env σ->St P hs nt D ι env σ a w->r6 P hs nt a.defers Q σ.next D ι w Q'->zY P c Q' a w
end Go.Proofs.YtphenfakmdknlaaGreat.V

namespace Go.Proofs.YtphenfakmdknlaaGreat.V
open Go.RowKit
end Go.Proofs.YtphenfakmdknlaaGreat.V

namespace Go.Proofs.YtphenfakmdknlaaGreat.V
open Go.RowKit
attribute [local irreducible] dJ wpOps e8 Call
attribute [local go_sem] ax eB dY eJ eI cJ upd bD K.av bW AV.cells AV.cell rowOf rowsOf part ld rowAt bC bx cU de fj bf cC dv eO er cL dm cw cu cZ da bl aI bZ bj ck cj di dn dj bY bo cz dh bh au cq bJ fh aT bV bm aH cS aQ cV AV.undef aV bc db dd cY dc bQ du dw bG dq dp cm cr List.getD_cons_zero List.getD_cons_succ List.getD_nil List.all_cons List.all_nil Bool.and_true Bool.true_and Bool.and_self Bool.not_true Bool.not_false Option.map_some Option.map_none Option.bind_some Option.bind_none List.length_cons List.length_nil List.take_succ_cons List.take_zero List.take_nil List.drop_succ_cons List.drop_zero List.drop_nil List.head?_cons List.map_cons List.map_nil List.getElem?_cons_zero List.getElem?_cons_succ List.cons_append List.nil_append List.append_nil List.length_map List.set_cons_zero List.set_cons_succ Nat.reduceMul eq_self Int.toNat_natCast Int.natCast_nonneg and_self true_and and_true decide_true decide_false Bool.false_eq_true Nat.zero_add Nat.add_zero List.contains_cons List.contains_nil Bool.or_false Bool.false_or beq_self_eq_true Nat.reduceBEq ne_eq not_true_eq_false not_false_eq_true Id.mk.injEq false_and and_false Nat.reduceLT Int.reduceLE Int.reduceLT Int.reduceToNat Int.reduceNeg Int.reduceAdd Nat.le_refl List.length_append beq_true beq_false Bool.not_eq_eq_eq_not or_false false_or dG ab ae az aU bu aC aP aE aJ cD aX
def rh (p:br->Bool) (l:List br):List br:=l.filter fun x=> !p x
theorem Ml {p:br->Bool} {l:List br} {j:Nat} (hj:j<l.length):rh p (l.take (j+1))=rh p (l.take j)++if p l[j]=true then[]else[l[j]]:=by
 unfold rh
 rw[List.take_succ_eq_append_getElem hj,List.filter_append]
 congr 1
 cases h:p l[j]<;>simp[h]
theorem Mj {p:br->Bool} {l:List br} (h:∀b∈l,p b=false):rh p l=l:=by
 unfold rh
 rw[List.filter_eq_self]
 intro b hb
 rw[h b hb];rfl
structure DlP (p:br->Bool) (bs:List br) (j:Nat) (R:List br):Prop where
 len:R.length=bs.length
 pre:R.take (rh p (bs.take j)).length=rh p (bs.take j)
 post:∀x,j<=x->R[x]? =bs[x]?
 lt:(rh p (bs.take j)).length<j
def rf (p:ai->Bool) (l:List ai):List ai:=l.filter fun x=> !p x
theorem Mi {p:ai->Bool} {l:List ai} {j:Nat} (hj:j<l.length):rf p (l.take (j+1))=rf p (l.take j)++if p l[j]=true then[]else[l[j]]:=by
 unfold rf
 rw[List.take_succ_eq_append_getElem hj,List.filter_append]
 congr 1
 cases h:p l[j]<;>simp[h]
theorem Mh {p:ai->Bool} {l:List ai} (h:∀b∈l,p b=false):rf p l=l:=by
 unfold rf
 rw[List.filter_eq_self]
 intro b hb
 rw[h b hb];rfl
structure DlL (p:ai->Bool) (bs:List ai) (j:Nat) (R:List ai):Prop where
 len:R.length=bs.length
 pre:R.take (rf p (bs.take j)).length=rf p (bs.take j)
 post:∀x,j<=x->R[x]? =bs[x]?
 lt:(rf p (bs.take j)).length<j
theorem Oc (g:Rows) (n:Nat) (x:ai):dM g (n+1) (ah x)=some (ah x):=by simp[ah,cN,dC,fV]
def MkA (n:Nat) (L:List ai) (r:AV) (σ':ar):Prop:=∃o:Id,r=.agg [.own o 0 L.length]/\σ'.get o=some ⟨true,3,L.map ah⟩/\n<=o.bR/\o.bR<σ'.next
def MkT (n:Nat) (L:List ai) (r:AV) (σ':ar):Prop:=∃(o:Id) (J:List ai),r=.agg [.own o 0 L.length]/\σ'.get o=some ⟨true,3,(L++J).map ah⟩/\n<=o.bR/\o.bR<σ'.next
def InL (X:Id) (st:zV) (e7:AV) (g:Rows) (n:Nat):Prop:=∃o u:Id,g X=some ⟨true,1,[[.own o 0 st.2.length]]⟩/\g o=some ⟨true,3,st.2.map ah⟩/\e7=.own u 0 st.1.length/\g u=some ⟨true,3,st.1.map ah⟩/\o.bR<u.bR/\X.bR<u.bR/\u.bR<n/\o≠X
theorem EG (q:ai):∀l:List ai,(l++[q]).Perm (pI l q)
 |[]=>List.Perm.refl _
 |x::l=>by
  have ih:=EG q l
  rw[pI]
  split
  ·exact List.perm_append_comm (l₁:=x::l) (l₂:=[q])
  ·exact ih.cons x
structure SameT (s:eT) (S:zV):Prop where
 at_:∀q,Dg (s.gH.aj++S.1) q=Dg S.2 q
 perm:(s.gH.aj++S.1).Perm S.2
structure InR (σ:ar) (m:Nat) (c T O:Id) (s:eT) (l:List ai) (S:zV) (e7:AV) (g:Rows) (n:Nat):Prop where
 cry:QE g n c T O s (s.gH.aj++S.1)
 u:(S.1=[]/\e7=.cK)∨∃u:Id,e7=.own u 0 S.1.length/\g u=some ⟨true,3,S.1.map ah⟩/\m<=u.bR/\u.bR<n/\0<S.1.length
 lo:m<=n
 fr:∀x:Id,x.bR<m->x≠T->x≠O->x≠c->g x=σ.get x
structure Wr2 (g:Rows) (n:Nat) (A S C c T O:Id) (s:eT) (l:List ai):Prop where
 a:∃b,g A=some ⟨b,1,[[.sl (l.map ah)]]⟩
 sy:∃b,g S=some ⟨b,4,[Ix s]⟩
 p:∃b,g C=some ⟨b,1,[[.ptr c 0 0]]⟩
 cry:Cry g n c T O s l
 av:A.bR<n
 sv:S.bR<n
 pv:C.bR<n
def resS (s:eT) (a:List ai):eT:=⟨s.iU,⟨a⟩,s.eK⟩
structure RepP (s:eT) (r a:List ai):Prop where
 sys:QJ s
 right:qc s.iU r
 asm:qc s.iU a
 wr:C7 s.gH.aj r=true
 wa:C7 s.gH.aj a=true
def InM (X:Id) (st:zV) (e7:AV) (g:Rows) (n:Nat):Prop:=∃o u:Id,g X=some ⟨true,1,[[.own o 0 st.2.length]]⟩/\g o=some ⟨true,3,st.2.map ah⟩/\e7=.own u 0 st.1.length/\g u=some ⟨true,3,st.1.map ah⟩/\(o=u->False)/\(X=u->False)/\u.bR<n/\(X=o->False)/\o.bR<n/\X.bR<n
end Go.Proofs.YtphenfakmdknlaaGreat.V

namespace Go.Proofs.YtphenfakmdknlaaGreat.V
open Go.RowKit
theorem GC {a:List ai} (h:mi a) {i:Nat} (hi:i<a.length):ew a a[i].cG=i:=by
 have h0:0<=ew a a[i].cG:=by
  rcases Int.lt_or_le (ew a a[i].cG) 0 with h0|h0
  ·exact absurd rfl (yO.1 h0 a[i] (List.getElem_mem hi))
  ·exact h0
 obtain⟨h1,h2⟩:=ly h0
 have h3:(ew a a[i].cG).toNat=i:=by
  rcases Nat.lt_trichotomy (ew a a[i].cG).toNat i with h4|h4|h4
  ·have:=h _ _ h4 hi
   rw[h2,eQ hi,pB]at this;cases this
  ·exact h4
  ·have:=h _ _ h4 h1
   rw[h2,eQ hi,pB]at this;cases this
 omega
def fQ (l:List ai) (p:List Nat):List ai:=p.map (bH l)
theorem pS {l:List ai} {p:List Nat} {k:Nat} (hk:k<p.length):bH (fQ l p) k=bH l (p.getD k 0):=by
 rw[eQ (show k<(fQ l p).length by simpa[fQ]using hk)]
 simp[fQ,List.getD_eq_getElem?_getD,List.getElem?_eq_getElem hk]
theorem zx {l:List ai} (h:mi l) {p:List Nat} (hp:p.Pairwise (· < ·)) (hl:∀x∈p,x<l.length):mi (fQ l p):=by
 rw[mV]
 rw[mV,List.pairwise_iff_getElem]at h
 refine List.pairwise_map.2 (hp.imp_of_mem fun {a b} ha hb l7=>?_)
 have:=h a b (hl a ha) (hl b hb) l7
 rwa [eQ (hl a ha),eQ (hl b hb)]
theorem Hw {l:List ai} (h:mi l) {p:List Nat} (hp:p.Pairwise (· < ·)) (hl:∀x∈p,x<l.length) (q:br):ew (fQ l p) q=if 0<=ew l q then l8 p (ew l q).toNat else -1:=by
 have fW:∀{z:Int},ew (fQ l p) q<0->ew (fQ l p) q= -1:=fun h=>by have:=(Bb (fQ l p) q).1;omega
 have iP:∀{t},t∈fQ l p->∃m∈p,t=bH l m:=fun ht=>by
  obtain⟨m,hm,rfl⟩:=List.mem_map.1 ht
  exact⟨m,hm,rfl⟩
 have DP:∀m,m<l.length->ew l (bH l m).cG=m:=fun m hm=>by rw[eQ hm];exact GC h hm
 by_cases h0:0<=ew l q
 ·rw[if_pos h0]
  obtain⟨h1,h2⟩:=ly h0
  generalize (ew l q).toNat=j at h1 h2
  by_cases hj:j∈p
  ·obtain⟨a1,a2,a3⟩:=iI hj
   have hk:p.idxOf j<(fQ l p).length:=by simpa[fQ]using a2
   have:=GC (zx h hp hl) hk
   rw[<-eQ hk,pS a2,a3,h2]at this
   rw[this,l8,if_pos hj]
  ·rw[l8,if_neg hj]
   refine fW (z:=0) (wq.2 fun t ht e=>?_)
   obtain⟨m,hm,rfl⟩:=iP ht
   have k1:=DP m (hl m hm)
   have k2:=DP j h1
   rw[e]at k1
   rw[h2]at k2
   have e2:m=j:=ad
   rw[e2]at hm
   exact hj hm
 ·rw[if_neg h0]
  refine fW (z:=0) (wq.2 fun t ht e=>?_)
  obtain⟨m,hm,rfl⟩:=iP ht
  have k1:=DP m (hl m hm)
  rw[e]at k1
  omega
theorem Aj {s:ao} {l:List ai} (h:mi l) {p:List Nat} (hp:p.Pairwise (· < ·)) (hl:∀x∈p,x<l.length) {k:Nat} (hk:k<p.length) (d:Int):dN p (gY s l (p.getD k 0) d)=gY s (fQ l p) k d:=by
 have hm:p.getD k 0∈p:=by rw[List.getD_eq_getElem?_getD,List.getElem?_eq_getElem hk];exact List.getElem_mem hk
 have hpi:l8 p (p.getD k 0)=k:=by rw[l8,if_pos hm,rS hp hk]
 unfold gY
 rw[pS hk,Hw h hp hl]
 generalize ej (bH l (p.getD k 0)).cG d=q
 by_cases h0:0<=ew l q
 ·simp only[if_pos h0]
  obtain⟨h1,h2⟩:=ly h0
  generalize (ew l q).toNat=j at h1 h2
  by_cases hj:0<=l8 p j
  ·obtain⟨a1,a2,a3⟩:=iI (mQ.1 hj)
   have e:bH (fQ l p) (l8 p j).toNat=bH l j:=by rw[a1,pS a2,a3]
   rw[e]
   by_cases hb:0<gM s (bH l (p.getD k 0)).bU d (bH l j).bU
   ·rw[if_pos ⟨h0,hb⟩,if_pos ⟨hj,hb⟩,dN,if_pos ⟨by rw[hpi];omega,hj⟩,dN]
    simp only[hpi,Int.toNat_natCast]
   ·rw[if_neg fun c=>hb c.2,if_neg fun c=>hb c.2];rfl
  ·rw[if_neg (c:=0<=l8 p j/\_) fun c=>hj c.1]
   split
   ·rw[dN,if_neg fun c=>hj c.2];rfl
   ·rfl
 ·simp only[if_neg h0]
  rw[if_neg fun c=>h0 c.1,if_neg fun c=>by have:=c.1;omega];rfl
theorem lH (p:List Nat) {α:Type} (f:α->List PB):∀xs:List α,dN p (xs.flatMap f)=xs.flatMap fun x=>dN p (f x)
 |[]=>rfl
 |x::xs=>by rw[List.flatMap_cons,qK,lH p f xs,List.flatMap_cons]
theorem Ai {s:ao} {l:List ai} {p:List Nat} {i:Nat} (hi:i∉p) (d:Int):dN p (gY s l i d)=[]:=by
 unfold gY
 split
 ·rw[dN,if_neg fun c=>hi (mQ.1 c.1)];rfl
 ·rfl
theorem F7 {β:Type} (f:Nat->List β) {p:List Nat} (hp:p.Pairwise (· < ·)):∀n:Nat,(∀i,i∉p->f i=[])->(∀x∈p,x<n)->(List.range n).flatMap f=p.flatMap f:=by
 intro n h0 hl
 have e:p=(List.range n).filter (fun i=>decide (i∈p)):=sb hp (List.pairwise_lt_range.filter _) fun x=>by
  rw[List.mem_filter]
  exact⟨fun h=>⟨List.mem_range.2 (hl x h),decide_eq_true h⟩,fun h=>of_decide_eq_true h.2⟩
 have key:∀xs:List Nat,xs.flatMap f=(xs.filter fun i=>decide (i∈p)).flatMap f:=fun xs=>by
  induction xs with
  |nil=>rfl
  |cons x xs ih=>
   rw[List.flatMap_cons,ih,List.filter_cons]
   by_cases h:x∈p
   ·rw[if_pos (decide_eq_true h),List.flatMap_cons]
   ·rw[if_neg (by simpa using h),h0 x h,List.nil_append]
 rw[key,<-e]
theorem yh {β:Type} (f:Nat->List β):∀p:List Nat,p.flatMap f=(List.range p.length).flatMap fun k=>f (p.getD k 0)
 |[]=>rfl
 |x::p=>by
  rw[List.flatMap_cons,yh f p,List.length_cons,List.range_succ_eq_map,List.flatMap_cons,List.flatMap_map]
  rfl
theorem oF {α β:Type} {f g:α->List β}:∀{xs:List α},(∀x∈xs,f x=g x)->xs.flatMap f=xs.flatMap g
 |[],_=>rfl
 |x::xs,h=>by rw[List.flatMap_cons,List.flatMap_cons,h x List.mem_cons_self,oF fun y hy=>h y (List.mem_cons_of_mem _ hy)]
theorem Dj {s:ao} {l:List ai} (h:mi l) {p:List Nat} (hp:p.Pairwise (· < ·)) (hl:∀x∈p,x<l.length):dN p (cI s l)=cI s (fQ l p):=by
 have A6:(fQ l p).length=p.length:=by simp[fQ]
 unfold cI fw
 rw[lH,A6]
 rw[F7 (fun i=>dN p (eF s l i 2)) hp l.length (fun i hi=>?_) hl,yh]
 ·refine oF fun k hk=>?_
  have hk:=List.mem_range.1 hk
  unfold eF
  rw[lH]
  exact oF fun j _=>Aj h hp hl hk _
 ·unfold eF
  rw[lH]
  exact List.flatMap_eq_nil_iff.2 fun j _=>Ai hi _
end Go.Proofs.YtphenfakmdknlaaGreat.V

namespace Go.Proofs.YtphenfakmdknlaaGreat.V
open Go.RowKit
attribute [local irreducible] dJ wpOps e8 Call
attribute [local go_sem] ax eB dY eJ eI cJ upd bD K.av bW AV.cells AV.cell rowOf rowsOf part ld rowAt bC bx cU de fj bf cC dv eO er cL dm cw cu cZ da bl aI bZ bj ck cj di dn dj bY bo cz dh bh au cq bJ fh aT bV bm aH cS aQ cV AV.undef aV bc db dd cY dc bQ du dw bG dq dp cm cr List.getD_cons_zero List.getD_cons_succ List.getD_nil List.all_cons List.all_nil Bool.and_true Bool.true_and Bool.and_self Bool.not_true Bool.not_false Option.map_some Option.map_none Option.bind_some Option.bind_none List.length_cons List.length_nil List.take_succ_cons List.take_zero List.take_nil List.drop_succ_cons List.drop_zero List.drop_nil List.head?_cons List.map_cons List.map_nil List.getElem?_cons_zero List.getElem?_cons_succ List.cons_append List.nil_append List.append_nil List.length_map List.set_cons_zero List.set_cons_succ Nat.reduceMul eq_self Int.toNat_natCast Int.natCast_nonneg and_self true_and and_true decide_true decide_false Bool.false_eq_true Nat.zero_add Nat.add_zero List.contains_cons List.contains_nil Bool.or_false Bool.false_or beq_self_eq_true Nat.reduceBEq ne_eq not_true_eq_false not_false_eq_true Id.mk.injEq false_and and_false Nat.reduceLT Int.reduceLE Int.reduceLT Int.reduceToNat Int.reduceNeg Int.reduceAdd Nat.le_refl List.length_append beq_true beq_false Bool.not_eq_eq_eq_not or_false false_or dG ab ae az aU bu aC aP aE aJ cD aX
theorem GD (L:List Nat) (x:Nat) (hlen:L.length<=1048576):∃z:Int,(0<=z↔x∈L)/\ak Tryz.prog 284 [.sl (L.map eN),.int .i64 (x:Int)] (.int .i64 z):=by
 have key:∀m:Nat,m<=L.length->(∀j,j<m->L.getD j 0≠x)->(m<L.length->L.getD m 0=x)->ak Tryz.prog 284 [.sl (L.map eN),.int .i64 (x:Int)] (.int .i64 (if m<L.length then(m:Int)else -1)):=by
  intro m hm hb ha
  refine ak.body eL rfl fun hl n0=>?_
  clear hl
  have fP:(L.map eN).length=L.length:=by simp
  (try((repeat(revert hN;revert N;apply Pn.out));refine wk @fP ?_;(repeat(refine Pn.mk ?_;intro N hN))))
  refine bp (fun n env st=>∃k:Nat,n=(L.length)-k/\k<=(L.length)/\env 8=.int .i64 (k:Int)/\(k<=m)) (L.length) ⟨0,ad,ad,sl @fP,Nat.zero_le _⟩ ?_
  rintro n_a env_a st_a ⟨k,rfl,ale,a8,aI0⟩ dt
  have a0:=dt 0 (by kernel_rfl);have a1:=dt 1 (by kernel_rfl);have a7:=dt 7 (by kernel_rfl)
  simp only[go_sem, ↓reduceIte,Nat.reduceEqDiff,Nat.reduceAdd,Nat.reduceSub,Nat.reduceLeDiff,reduceCtorEq,fP]at a0 a1 a7
  clear dt
  by_cases hk:(k:Int)<(L.length:Int)
  ·have bK:∀{e:Env},(e 8=.int .i64 (IntKind.i64.wrap ((k:Int)+1)))->((k+1)<=m)->∃m0,m0<(L.length)-k/\∃k:Nat,m0=(L.length)-k/\k<=(L.length)/\e 8=.int .i64 (k:Int)/\(k<=m):=fun x1 x2=>⟨_,ad,k+1,rfl,ad,(by rw[x1,aA ad]),x2⟩
   have hi:k<L.length:=ad
   have hg:=oc hi
   by_cases LV:k=m
   ·have he:=ha ad
    rw[<-LV]at he
    have hd:decide ((x:Int)=((L.getD k 0:Nat):Int))=true:=decide_eq_true ad
    have jg:decide (x=L.getD k 0)=true:=decide_eq_true he.symm
    (try((repeat(revert hN;revert N;apply Pn.out));refine wk (tw @a8 (tw @a0 (tw @a1 (tw @a7 (tw @hk (tw @hg (tw @hd (tw @jg @fP)))))))) ?_;(repeat(refine Pn.mk ?_;intro N hN))))
    exact cH (b:=(k:Int)) (.inl rfl) (sd (tw @a8 (tw @a0 (tw @a1 @a7)))) (by rw[if_pos ad,LV])
   ·have he:=hb k ad
    have hd:decide ((x:Int)=((L.getD k 0:Nat):Int))=false:=decide_eq_false ad
    have jg:decide (x=L.getD k 0)=false:=decide_eq_false ad
    (try((repeat(revert hN;revert N;apply Pn.out));refine wk (tw @a8 (tw @a0 (tw @a1 (tw @a7 (tw @hk (tw @hg (tw @hd (tw @jg @fP)))))))) ?_;(repeat(refine Pn.mk ?_;intro N hN))))
    exact bK (sd (tw @a8 (tw @a0 (tw @a1 (tw @a7 @fP))))) ad
  ·(try((repeat(revert hN;revert N;apply Pn.out));refine wk (tw @a8 (tw @a0 (tw @a1 (tw @a7 @hk)))) ?_;(repeat(refine Pn.mk ?_;intro N hN))))
   exact cH (b:=-1) (.inl rfl) (sd @Nat.zero_add) (by rw[if_neg ad])
 by_cases h:x∈L
 ·have ea:=List.idxOf_lt_length_iff.2 h
  refine⟨_,?_,key (L.idxOf x) ad (fun j hj e=>?_) fun hm=>?_⟩
  ·rw[if_pos ea]
   exact⟨fun _=>h,fun _=>ad⟩
  ·have:=List.not_of_lt_findIdx (p:=(·==x)) (xs:=L) (i:=j) hj
   rw[List.getD_eq_getElem?_getD,List.getElem?_eq_getElem ad]at e
   simp at e this
   exact this e
  ·have hg:L[L.idxOf x]=x:=List.getElem_idxOf ea
   rw[List.getD_eq_getElem?_getD,List.getElem?_eq_getElem ea]
   exact hg
 ·refine⟨_,?_,key L.length (Nat.le_refl _) (fun j hj e=>h ?_) fun hm=>absurd hm (Nat.lt_irrefl _)⟩
  ·rw[if_neg (Nat.lt_irrefl _)]
   exact⟨fun h=>ad,fun h'=>absurd h' h⟩
  ·rw[<-e,List.getD_eq_getElem?_getD,List.getElem?_eq_getElem hj]
   exact List.getElem_mem hj
theorem xU (L:List Nat) (x:Nat) (hlen:L.length<=1048576):ak Tryz.prog 202 [.sl (L.map eN),.int .i64 (x:Int)] (.bool (decide (x∈L))):=by
 refine ak.body eL rfl fun hl n0=>?_
 clear hl
 obtain⟨z,hz,hi⟩:=GD L x hlen
 (repeat(first|((repeat(revert hN;revert N;apply Pn.out));refine wk @Nat.zero_add ?_;(repeat(refine Pn.mk ?_;intro N hN)))|((try apply Or.inl);refine⟨_,ak.x (hi) (sd @Nat.zero_add),?_⟩;refine hN _ _ ?_;clear hN N)))
 exact bt (.inl rfl) (by simp only[go_sem, ↓reduceIte,Nat.reduceEqDiff,Nat.reduceAdd,Nat.reduceSub,Nat.reduceLeDiff,reduceCtorEq];rfl) (by rw[Bool.eq_iff_iff];simp[hz])
def K1 (S:Nat) (L:List ai) (v:AV) (g:Rows) (n:Nat):Prop:=(L=[]/\v=.cK)∨∃u:Id,v=.own u 0 L.length/\g u=some ⟨true,3,L.map ah⟩/\u.bR<n/\0<L.length/\u.site=S
theorem mZ (l:List ai) (p:List Nat):(fQ l p).length=p.length:=by simp[fQ]
theorem EU {l:List ai} {p:List Nat} {k:Nat} (hk:k<p.length):fQ l (p.take (k+1))=fQ l (p.take k)++[bH l (p.getD k 0)]:=by
 rw[fQ,List.take_succ_eq_append_getElem hk,List.map_append,List.getD_eq_getElem?_getD,List.getElem?_eq_getElem hk];rfl
theorem PJ (l:List ai) (hl:l.length<=1048576) (p:List Nat) (hp:p.length<=1048576) (h0:0<p.length) (ea:∀x∈p,x<l.length):ak Tryz.prog 201 [.agg [.sl (l.map ah)],.sl (p.map eN)] (.agg [.sl ((fQ l p).map ah)]):=by
 refine ak.body eL rfl fun wg n0=>?_
 clear wg
 have fP:(l.map ah).length=l.length:=by simp
 have jM:(p.map eN).length=p.length:=by simp
 (try((repeat(revert hN;revert N;apply Pn.out));refine wk @jM ?_;(repeat(refine Pn.mk ?_;intro N hN))))
 refine bp (fun n env st=>∃k:Nat,n=(p.length)-k/\k<=(p.length)/\env 10=.int .i64 (k:Int)/\st.get ⟨201000000,n0⟩=some ⟨true,1,[[.sl (l.map ah)]]⟩/\st.get ⟨201000001,n0⟩=some ⟨true,1,[[.cK]]⟩/\(n0+2<=st.next/\∃v,st.get ⟨201001000,n0+1⟩=some ⟨true,1,[[v]]⟩/\K1 201005008 (fQ l (p.take k)) v st.get st.next)) (p.length) ⟨0,ad,ad,sl @jM,sl @jM,sl @jM,by(try dsimp only);exact⟨ad,.cK,sd @Nat.zero_add,.inl ⟨rfl,rfl⟩⟩⟩ ?_
 rintro n_a env_a st_a ⟨k,rfl,ale,iL,ag0,ag1,aI0⟩ dt
 have a2:=dt 2 (by kernel_rfl);have a4:=dt 4 (by kernel_rfl);have a5:=dt 5 (by kernel_rfl);have a8:=dt 8 (by kernel_rfl);have a9:=dt 9 (by kernel_rfl)
 simp only[go_sem, ↓reduceIte,Nat.reduceEqDiff,Nat.reduceAdd,Nat.reduceSub,Nat.reduceLeDiff,reduceCtorEq,jM]at a2 a4 a5 a8 a9
 clear dt
 obtain⟨an,v,aB,aG⟩:=aI0
 have v0:=dW (i:=⟨201000000,n0⟩) (n:=st_a.next) cE
 have v1:=dW (i:=⟨201000001,n0⟩) (n:=st_a.next) cE
 have v2:=dW (i:=⟨201001000,n0+1⟩) (n:=st_a.next) cE
 by_cases hk:(k:Int)<(p.length:Int)
 ·have bK:∀{e:Env} {gg:Rows} {nx:Nat},(e 10=.int .i64 (IntKind.i64.wrap ((k:Int)+1)))->(gg ⟨201000000,n0⟩=some ⟨true,1,[[.sl (l.map ah)]]⟩)->(gg ⟨201000001,n0⟩=some ⟨true,1,[[.cK]]⟩)->(n0+2<=nx/\∃v,gg ⟨201001000,n0+1⟩=some ⟨true,1,[[v]]⟩/\K1 201005008 (fQ l (p.take (k+1))) v gg nx)->∃m0,m0<(p.length)-k/\∃k:Nat,m0=(p.length)-k/\k<=(p.length)/\e 10=.int .i64 (k:Int)/\gg ⟨201000000,n0⟩=some ⟨true,1,[[.sl (l.map ah)]]⟩/\gg ⟨201000001,n0⟩=some ⟨true,1,[[.cK]]⟩/\(n0+2<=nx/\∃v,gg ⟨201001000,n0+1⟩=some ⟨true,1,[[v]]⟩/\K1 201005008 (fQ l (p.take k)) v gg nx):=fun x1 x2 x3 x4=>⟨_,ad,k+1,rfl,ad,(by rw[x1,aA ad]),x2,x3,x4⟩
  have eo:k<p.length:=ad
  have hg:=oc eo
  have hx:p.getD k 0<l.length:=ea _ (by rw[List.getD_eq_getElem?_getD,List.getElem?_eq_getElem eo];exact List.getElem_mem eo)
  have OJ:=gy hx
  have ee:=EU (l:=l) eo
  have A6:(fQ l (p.take k)).length=k:=by rw[mZ,List.length_take];omega
  have zN:((p.getD k 0:Nat):Int)<(l.length:Int):=ad
  generalize bH l (p.getD k 0)=y at OJ ee
  generalize p.getD k 0=x at hg OJ zN
  have pj:(fQ l (p.take (k+1))).map ah=(fQ l (p.take k)).map ah++[ah y]:=by rw[ee,List.map_append];rfl
  have yJ:(fQ l (p.take (k+1))).length=(fQ l (p.take k)).length+1:=by rw[ee];simp
  generalize fQ l (p.take k)=M at aG pj yJ A6
  rw[ah]at OJ pj
  rcases aG with⟨hM,rfl⟩|⟨u,rfl,hug,CG,NB,I0⟩
  ·subst hM
   (try((repeat(revert hN;revert N;apply Pn.out));refine wk (tw @iL (tw @ag0 (tw @ag1 (tw @a2 (tw @a4 (tw @a5 (tw @a8 (tw @a9 (tw @aB (tw @v0 (tw @v1 (tw @v2 (tw @hk (tw @hg (tw @OJ (tw @fP (tw @jM @zN))))))))))))))))) ?_;(repeat(refine Pn.mk ?_;intro N hN))))
   refine bK ?_ ?_ ?_ (by(try dsimp only);exact⟨ad,.own ⟨201005008,st_a.next+1+1⟩ 0 (fQ l (p.take (k+1))).length,by rw[yJ];simp only[go_sem, ↓reduceIte,Nat.reduceEqDiff,Nat.reduceAdd,Nat.reduceSub,Nat.reduceLeDiff,reduceCtorEq]<;>rfl,.inr ⟨_,rfl,by rw[pj];simp only[go_sem, ↓reduceIte,Nat.reduceEqDiff,Nat.reduceAdd,Nat.reduceSub,Nat.reduceLeDiff,reduceCtorEq]<;>rfl,cE,by rw[yJ];omega,rfl⟩⟩)
   all_goals simp only[go_sem, ↓reduceIte,Nat.reduceEqDiff,Nat.reduceAdd,Nat.reduceSub,Nat.reduceLeDiff,reduceCtorEq,iL,ag0,ag1,a2,a4,a5,a8,a9,v0,v1,v2,jM]
  ·have vu:=dW CG
   have wh:(M.map ah).length=M.length:=by simp
   have AM:M.length<=16777215:=ad
   have u0:=fy I0 (b:=201000000) (v:=n0) (by decide)
   have u1:=fy I0 (b:=201000001) (v:=n0) (by decide)
   have u2:=fy I0 (b:=201001000) (v:=n0+1) (by decide)
   (try((repeat(revert hN;revert N;apply Pn.out));refine wk (tw @iL (tw @ag0 (tw @ag1 (tw @a2 (tw @a4 (tw @a5 (tw @a8 (tw @a9 (tw @aB (tw @v0 (tw @v1 (tw @v2 (tw @hk (tw @hg (tw @OJ (tw @fP (tw @jM (tw @zN (tw @hug (tw @vu (tw @wh (tw @AM (tw @u0 (tw @u1 @u2)))))))))))))))))))))))) ?_;(repeat(refine Pn.mk ?_;intro N hN))))
   refine bK ?_ ?_ ?_ (by(try dsimp only);exact⟨ad,.own ⟨201005008,st_a.next+1+1⟩ 0 (fQ l (p.take (k+1))).length,by rw[yJ];simp only[go_sem, ↓reduceIte,Nat.reduceEqDiff,Nat.reduceAdd,Nat.reduceSub,Nat.reduceLeDiff,reduceCtorEq,u2]<;>rfl,.inr ⟨_,rfl,by rw[pj];simp only[go_sem, ↓reduceIte,Nat.reduceEqDiff,Nat.reduceAdd,Nat.reduceSub,Nat.reduceLeDiff,reduceCtorEq]<;>rfl,cE,by rw[yJ];omega,rfl⟩⟩)
   all_goals simp only[go_sem, ↓reduceIte,Nat.reduceEqDiff,Nat.reduceAdd,Nat.reduceSub,Nat.reduceLeDiff,reduceCtorEq,iL,ag0,ag1,a2,a4,a5,a8,a9,v0,v1,v2,u0,u1,u2,jM]
 ·have jz:k=p.length:=ad
  subst jz
  rw[List.take_length]at aG
  rcases aG with⟨hM,rfl⟩|⟨u,rfl,hug,CG,NB,I0⟩
  ·have:=mZ l p
   rw[hM]at this;simp at this;omega
  ·have u1:=fy I0 (b:=201000001) (v:=n0) (by decide)
   (try((repeat(revert hN;revert N;apply Pn.out));refine wk (tw @iL (tw @ag0 (tw @ag1 (tw @a2 (tw @a4 (tw @a5 (tw @a8 (tw @a9 (tw @aB (tw @v1 (tw @v2 (tw @hk @jM)))))))))))) ?_;(repeat(refine Pn.mk ?_;intro N hN))))
   exact mU (.inl rfl) (vs:=[.agg [.own u 0 (fQ l p).length]]) (sd (tw @iL (tw @ag0 (tw @ag1 (tw @a2 (tw @a4 (tw @a5 (tw @a8 @a9)))))))) (by
    simp only[eH,vT,cN,dC]
    rw[fa (e:=ah) (l:=fQ l p) (sz:=3) (sd (tw @u1 @hug)) rfl (fun x=>Oc _ 3 x)];rfl)
theorem Hv {s:ao} {l:List ai} (hA:qc s l) {p:List Nat} (hp:p.Pairwise (· < ·)) (hl:∀x∈p,x<l.length):qc s (fQ l p):=by
 have LO:p.length<=l.length:=gS l.length p (hp.imp fun h e=>ad) hl
 have hR:=zx hA.1.PG hp hl
 refine⟨⟨by rw[mZ];exact Nat.le_trans LO hA.1.IB,fun i hi=>?_⟩,fun t ht=>?_⟩
 ·have mK:i<p.length:=by rw[mZ]at hi;exact hi
  have hm:p.getD i 0∈p:=by rw[List.getD_eq_getElem?_getD,List.getElem?_eq_getElem mK];exact List.getElem_mem mK
  have h1:=hA.1.ok _ (hl _ hm)
  unfold B4 at h1 ⊢
  rw[pS mK]
  refine⟨h1.1,h1.2.1,fun h0=>?_⟩
  have:=hR (i-1) i ad hi
  rwa [pS mK]at this
 ·obtain⟨m,hm,rfl⟩:=List.mem_map.1 ht
  exact hA.2 _ (mO (hl m hm))
theorem ku.cut {P:Program} (hm:P.follows .mixedOrders=true) {f:Nat} {args eA:List AV} {R:AV->Prop} (hc:nL args eA) (h:ku P f eA R):ku P f args R:=fun σ=>(h σ).cut hm hc
theorem BY (cnt:Nat) (h2:2<=cnt) (hn:cnt<=1048576) (bs:List PB) (hb:∀b∈bs,b.a<cnt/\b.b<cnt) (ee:∀b∈bs,0<=b.s/\b.s<=4) (re:bs.length<=1048576):
  ku Tryz.prog 199 [.int .i64 cnt,JR bs] fun r=>∃dR l,r=.im [.int .i64 dR,.sl (l.map eN)]/\(∀t:Int,t<=dR↔oi cnt bs t)/\nY cnt bs dR l:=by
 have h:=Fa cnt h2 hn bs hb ee re
 cases bs with
 |nil=>exact h.cut mixed (.same _ (.cK .nil))
 |cons b r=>rw[JS (by simp)];exact h
def qN:tO (List Nat):=fun g cs R ids=>∃u,cs=[.own u 0 R.length]/\g u=some ⟨true,1,R.map eN⟩/\ids=[u]
theorem sN:nM qN 1 where
 frame:=fun⟨i,h1,h2,h3⟩ hf=>⟨i,h1,(hf i (by rw[h3];simp)).trans h2,h3⟩
 len:=fun⟨i,h1,_⟩=>by rw[h1];rfl
 cell:=fun⟨i,h1,_⟩=>by rw[h1];rfl
 live:=fun⟨i,h1,h2,h3⟩ j hj=>by
  rw[h3]at hj
  have:j=i:=by simpa using hj
  subst this
  exact⟨_,h2,rfl,by simp[l6]⟩
 small:=by simp[l6]
def QC (n:Nat) (bs:List PB) (t:Int) (p:List Nat) (u:Id) (σ:ar) (r:AV) (σ':ar):Prop:=
 ∃R o rows is,rZ n bs t p R/\r=.own o 0 R.length/\σ'.get o=some ⟨true,1,rows⟩/\cW qN σ'.get rows R is/\(σ.next<=o.bR/\o.bR<σ'.next)/\(∀i∈is,(i=u∨σ.next<=i.bR)/\i.bR<σ'.next)/\(o::is).Nodup/\σ.next<=σ'.next/\∀i:Id,i.bR<σ.next->σ'.get i=σ.get i
theorem kH {p:List Nat} {k:Nat} (hk:k<p.length) (T:Nat->Bool):(p.take (k+1)).filter T=(p.take k).filter T++if T (p.getD k 0)=true then[p.getD k 0]else[]:=by
 rw[List.take_succ_eq_append_getElem hk,List.filter_append,List.getD_eq_getElem?_getD,List.getElem?_eq_getElem hk]
 simp[List.filter_cons]
theorem nJ {p:List Nat} (k:Nat) (T:Nat->Bool):((p.take k).filter T).length<=p.length:=Nat.le_trans (List.length_filter_le _ _) (by rw[List.length_take];omega)
theorem vI (s:ao) (l:List ai) (t:Int) (hS:lV s) (hA:qc s l) (Cq:l.length<=64):∀(m:Nat) (p:List Nat) (u:Id) (σ:ar),p.length<=m->(∃R0,dZ l.length (cI s l) t (p::R0))->σ.get u=some ⟨true,1,p.map eN⟩->u.bR<σ.next->
  Call Tryz.prog 96 [.agg (aa s),.agg [.sl (l.map ah)],.own u 0 p.length,.int .i64 t] σ (QC l.length (cI s l) t p u σ):=by
 intro m
 induction m with
 |zero=>
  intro p u σ hm ⟨R0,hR⟩ _ _
  exact absurd (List.length_pos_iff.2 (hR.some p (by simp))) ad
 |succ m ih=>
  intro p u σ hm ⟨R0,hR⟩ hu huv
  have AZ:0<p.length:=List.length_pos_iff.2 (hR.some p (by simp))
  have IU:=hR.HV p (by simp)
  have lx:=hR.lt p (by simp)
  have fG:=kW (l:=l) hS
  have Kz:∀b∈cI s l,0<=b.s:=fun b hb=>by have:=fG b hb;omega
  have LO:p.length<=l.length:=gS l.length p (IU.imp fun h e=>ad) lx
  have hvu:=dW huv
  have jM:(p.map eN).length=p.length:=by simp
  have huz:∀g:Rows,g u=some ⟨true,1,p.map eN⟩->V.fz (dG g) 6 (.own u 0 p.length)=some (.sl (p.map eN)):=fun g hg=>fF (e:=eN) (sz:=1) (by simp[dG,hg]) rfl fun x=>by simp[eN,ab,ae,az]
  refine Fp NW rfl fun wg=>?_
  try simp only[q]
  clear wg
  by_cases Gq:(p.length:Int)<2
  ·have Gr:p.length<2:=ad
   (try((repeat(revert hN;revert N;apply Pn.out));refine wk (tw @aa.eq_1 @Gq) ?_;(repeat(refine Pn.mk ?_;intro N hN))))
   refine gI (.inl rfl) (vs:=[.own ⟨96002001,σ.next+1+1⟩ 0 1]) (sd @Nat.zero_add) ⟨[p],_,_,[u],.one (u7 Gr) AZ,rfl,sl @Nat.zero_add,.one ⟨u,rfl,sd (tw @hvu @hu),rfl⟩,⟨cE,cE⟩,fun i hi=>?_,?_,cE,fun i hi=>(by have h9:=dW hi;simp only[go_sem, ↓reduceIte,Nat.reduceEqDiff,Nat.reduceAdd,Nat.reduceSub,Nat.reduceLeDiff,reduceCtorEq,h9])⟩
   ·rw[List.mem_singleton.1 hi];exact⟨.inl rfl,cE⟩
   ·refine List.nodup_cons.2 ⟨fun h=>?_,by simp⟩
    rw[<-List.mem_singleton.1 h]at huv;(try dsimp only at huv);omega
  have Gr:2<=p.length:=ad
  have hsa:=Hv hA IU lx
  have A6:=mZ l p
  have oL:=PJ l ad p ad AZ lx
  have tV:=Lf s (fQ l p) hS hsa
  have Ff:=Dj (s:=s) hA.1.PG IU lx
  have II:=kW (l:=fQ l p) hS
  have hbl2:=ou (s:=s) hsa.1
  rw[A6]at II
  have Pf:=BY p.length Gr ad (cI s (fQ l p)) (fun b hb=>⟨(II b hb).1,(II b hb).2.1⟩) (fun b hb=>by have:=II b hb;omega) ad
  rw[<-Ff]at tV Pf
  have hBf:∀(g:Rows) (k:Nat),V.fz g (k+1) (JR (dN p (cI s l)))=some (JR (dN p (cI s l))):=fun g k=>by
   unfold JR;split
   ·exact aC _ _
   ·exact bu _ _ _
  rw[aa]at tV ⊢
  (try((repeat(revert hN;revert N;apply Pn.out));refine wk @Gq ?_;(repeat(refine Pn.mk ?_;intro N hN))))
  refine BX (fun e st=>∃dR cut,e 2=.own u 0 p.length/\e 3=.int .i64 t/\e 4=.ptr ⟨96000000,σ.next⟩ 0 0/\e 5=.ptr ⟨96000001,σ.next⟩ 0 0/\e 9=.int .i64 dR/\e 10=.sl (cut.map eN)/\(∀t:Int,t<=dR↔oi p.length (dN p (cI s l)) t)/\nY p.length (dN p (cI s l)) dR cut/\st.get ⟨96000000,σ.next⟩=some ⟨true,2,[aa s]⟩/\st.get ⟨96000001,σ.next⟩=some ⟨true,1,[[.sl (l.map ah)]]⟩/\σ.next<st.next/\∀i:Id,i.bR<σ.next->st.get i=σ.get i) ?_ ?_
  ·rintro e1 st1 ⟨dR,cut,e2,e3,e4,e5,e9,e10,Gc,yH,g4,g5,yD,lQ⟩
   refine hN _ _ ?_
   clear hN N
   have CF:=(lQ u huv).trans hu
   have DW:=dW (i:=u) (n:=st1.next) ad
   by_cases Ma:t<=dR
   ·have IY:=(u6 IU AZ).1 ((Gc t).1 Ma)
    (try((repeat(revert hN;revert N;apply Pn.out));refine wk (tw @e2 (tw @e3 (tw @e4 (tw @e5 (tw @e9 (tw @e10 @Ma)))))) ?_;(repeat(refine Pn.mk ?_;intro N hN))))
    refine gI (.inl rfl) (vs:=[.own ⟨96005001,st1.next+1⟩ 0 1]) (sd @Nat.zero_add) ⟨[p],_,_,[u],.one IY AZ,rfl,sl @Nat.zero_add,.one ⟨u,rfl,sd (tw @DW @CF),rfl⟩,⟨cE,cE⟩,fun i hi=>?_,?_,cE,fun i hi=>(by have h8:=lQ i hi;have h9:=dW (i:=i) (n:=st1.next) ad;simp only[go_sem, ↓reduceIte,Nat.reduceEqDiff,Nat.reduceAdd,Nat.reduceSub,Nat.reduceLeDiff,reduceCtorEq,h8,h9])⟩
    ·rw[List.mem_singleton.1 hi];exact⟨.inl rfl,cE⟩
    ·refine List.nodup_cons.2 ⟨fun h=>?_,by simp⟩
     rw[<-List.mem_singleton.1 h]at huv;(try dsimp only at huv);omega
   obtain⟨T,k1,k2,k3,k4⟩:=tk IU AZ yH
   have kY:cut.length<=p.length:=by
    obtain⟨S,_,_,_,rfl⟩:=yH
    exact Nat.le_trans (List.length_filter_le _ _) (by rw[List.length_range];exact Nat.le_refl _)
   have Gh:jD (·∈p) T (cI s l)<t:=ad
   have v4:=dW (i:=⟨96000000,σ.next⟩) (n:=st1.next) yD
   have v5:=dW (i:=⟨96000001,σ.next⟩) (n:=st1.next) yD
   (try((repeat(revert hN;revert N;apply Pn.out));refine wk (tw @e2 (tw @e3 (tw @e4 (tw @e5 (tw @e9 (tw @e10 @Ma)))))) ?_;(repeat(refine Pn.mk ?_;intro N hN))))
   refine bp (fun n env st=>∃k:Nat,n=(p.length)-k/\k<=(p.length)/\env 38=.int .i64 (k:Int)/\st.get ⟨96000000,σ.next⟩=some ⟨true,2,[aa s]⟩/\st.get ⟨96000001,σ.next⟩=some ⟨true,1,[[.sl (l.map ah)]]⟩/\st.get u=some ⟨true,1,p.map eN⟩/\(st1.next<=st.next/\(∀i:Id,i.bR<σ.next->st.get i=σ.get i)/\(((p.take k).filter T=[]/\env 11=.cK)∨∃w:Id,env 11=.own w 0 ((p.take k).filter T).length/\st.get w=some ⟨true,1,((p.take k).filter T).map eN⟩/\w.site=96012003/\st1.next<=w.bR/\w.bR<st.next)/\(((p.take k).filter (fun x=> !T x)=[]/\env 12=.cK)∨∃w:Id,env 12=.own w 0 ((p.take k).filter (fun x=> !T x)).length/\st.get w=some ⟨true,1,((p.take k).filter (fun x=> !T x)).map eN⟩/\w.site=96011003/\st1.next<=w.bR/\w.bR<st.next))) (p.length) ⟨0,ad,ad,sl (tw @e2 (tw @e3 (tw @e4 (tw @e5 (tw @e10 (tw @v4 (tw @v5 (tw @g4 (tw @g5 (tw @CF @DW)))))))))),sl (tw @e2 (tw @e3 (tw @e4 (tw @e5 (tw @e10 (tw @v4 (tw @v5 (tw @g4 (tw @g5 (tw @CF @DW)))))))))),sl (tw @e2 (tw @e3 (tw @e4 (tw @e5 (tw @e10 (tw @v4 (tw @v5 (tw @g4 (tw @g5 (tw @CF @DW)))))))))),sl (tw @e2 (tw @e3 (tw @e4 (tw @e5 (tw @e10 (tw @v4 (tw @v5 (tw @g4 (tw @g5 (tw @CF @DW)))))))))),by(try dsimp only);exact⟨ad,fun i hi=>(by have h8:=lQ i hi;have h9:=dW (i:=i) (n:=st1.next) ad;simp only[go_sem, ↓reduceIte,Nat.reduceEqDiff,Nat.reduceAdd,Nat.reduceSub,Nat.reduceLeDiff,reduceCtorEq,h8,h9]),.inl ⟨rfl,sd @Nat.zero_add⟩,.inl ⟨rfl,sd @Nat.zero_add⟩⟩⟩ ?_
   rintro n_a env_a st_a ⟨k,rfl,ale,a38,ag0,ag1,ag2,aI0⟩ dt
   have a3:=dt 3 (by kernel_rfl);have a4:=dt 4 (by kernel_rfl);have a5:=dt 5 (by kernel_rfl);have iL:=dt 10 (by kernel_rfl);have xj:=dt 36 (by kernel_rfl);have a37:=dt 37 (by kernel_rfl)
   simp only[go_sem, ↓reduceIte,Nat.reduceEqDiff,Nat.reduceAdd,Nat.reduceSub,Nat.reduceLeDiff,reduceCtorEq,e2,e3,e4,e5,e10,v4,v5,g4,g5,CF,DW]at a3 a4 a5 iL xj a37
   clear dt
   obtain⟨an,aF,aL,aR⟩:=aI0
   have w4:=dW (i:=⟨96000000,σ.next⟩) (n:=st_a.next) cE
   have w5:=dW (i:=⟨96000001,σ.next⟩) (n:=st_a.next) cE
   have wu:=dW (i:=u) (n:=st_a.next) ad
   by_cases hk:(k:Int)<(p.length:Int)
   ·have bK:∀{e:Env} {gg:Rows} {nx:Nat},(e 38=.int .i64 (IntKind.i64.wrap ((k:Int)+1)))->(gg ⟨96000000,σ.next⟩=some ⟨true,2,[aa s]⟩)->(gg ⟨96000001,σ.next⟩=some ⟨true,1,[[.sl (l.map ah)]]⟩)->(gg u=some ⟨true,1,p.map eN⟩)->(st1.next<=nx/\(∀i:Id,i.bR<σ.next->gg i=σ.get i)/\(((p.take (k+1)).filter T=[]/\e 11=.cK)∨∃w:Id,e 11=.own w 0 ((p.take (k+1)).filter T).length/\gg w=some ⟨true,1,((p.take (k+1)).filter T).map eN⟩/\w.site=96012003/\st1.next<=w.bR/\w.bR<nx)/\(((p.take (k+1)).filter (fun x=> !T x)=[]/\e 12=.cK)∨∃w:Id,e 12=.own w 0 ((p.take (k+1)).filter (fun x=> !T x)).length/\gg w=some ⟨true,1,((p.take (k+1)).filter (fun x=> !T x)).map eN⟩/\w.site=96011003/\st1.next<=w.bR/\w.bR<nx))->∃m0,m0<(p.length)-k/\∃k:Nat,m0=(p.length)-k/\k<=(p.length)/\e 38=.int .i64 (k:Int)/\gg ⟨96000000,σ.next⟩=some ⟨true,2,[aa s]⟩/\gg ⟨96000001,σ.next⟩=some ⟨true,1,[[.sl (l.map ah)]]⟩/\gg u=some ⟨true,1,p.map eN⟩/\(st1.next<=nx/\(∀i:Id,i.bR<σ.next->gg i=σ.get i)/\(((p.take k).filter T=[]/\e 11=.cK)∨∃w:Id,e 11=.own w 0 ((p.take k).filter T).length/\gg w=some ⟨true,1,((p.take k).filter T).map eN⟩/\w.site=96012003/\st1.next<=w.bR/\w.bR<nx)/\(((p.take k).filter (fun x=> !T x)=[]/\e 12=.cK)∨∃w:Id,e 12=.own w 0 ((p.take k).filter (fun x=> !T x)).length/\gg w=some ⟨true,1,((p.take k).filter (fun x=> !T x)).map eN⟩/\w.site=96011003/\st1.next<=w.bR/\w.bR<nx)):=fun x1 x2 x3 x4 x5=>⟨_,ad,k+1,rfl,ad,(by rw[x1,aA ad]),x2,x3,x4,x5⟩
    have eo:k<p.length:=ad
    have hg:=oc eo
    have hc:=xU cut k ad
    have hT:=k4 k eo
    have xl:=kH eo T
    have pe:=kH eo (fun x=> !T x)
    have sJ:=nJ (p:=p) k T
    have OO:=nJ (p:=p) k (fun x=> !T x)
    cases hb:T (p.getD k 0)
    ·rw[hb]at xl pe hT
     have hd:decide (k∈cut)=true:=decide_eq_true (hT.2 rfl)
     rw[hd]at hc
     simp only[Bool.not_false,if_true,Bool.false_eq_true,if_false,List.append_nil]at xl pe
     have pj:((p.take (k+1)).filter (fun x=> !T x)).map eN=((p.take k).filter (fun x=> !T x)).map eN++[[.int .i64 ((p.getD k 0:Nat):Int)]]:=by rw[pe,List.map_append];rfl
     have yJ:((p.take (k+1)).filter (fun x=> !T x)).length=((p.take k).filter (fun x=> !T x)).length+1:=by rw[pe];simp
     generalize (p.take k).filter (fun x=> !T x)=M at aR pj yJ OO
     rcases aR with⟨hM,a12⟩|⟨w,a12,zM,hws,pq,wo⟩
     ·subst hM
      (repeat(first|((repeat(revert hN;revert N;apply Pn.out));refine wk (tw @a38 (tw @ag0 (tw @ag1 (tw @ag2 (tw @a3 (tw @a4 (tw @a5 (tw @iL (tw @xj (tw @a37 (tw @a12 (tw @w4 (tw @w5 (tw @wu (tw @hk (tw @hg @jM)))))))))))))))) ?_;(repeat(refine Pn.mk ?_;intro N hN)))|((try apply Or.inl);refine⟨_,ak.x (hc) (sd (tw @a38 (tw @ag0 (tw @ag1 (tw @ag2 (tw @a3 (tw @a4 (tw @a5 (tw @iL (tw @xj (tw @a37 (tw @a12 (tw @w4 (tw @w5 (tw @wu (tw @hk (tw @hg @jM))))))))))))))))),?_⟩;refine hN _ _ ?_;clear hN N)))
      refine bK ?_ ?_ ?_ ?_ (by(try dsimp only);exact⟨ad,fun i hi=>(by have h8:=aF i hi;have h9:=dW (i:=i) (n:=st_a.next) ad;simp only[go_sem, ↓reduceIte,Nat.reduceEqDiff,Nat.reduceAdd,Nat.reduceSub,Nat.reduceLeDiff,reduceCtorEq,h8,h9]),by
       rw[xl]
       rcases aL with⟨q1,q2⟩|⟨w',q1,q2,q3,q4,q5⟩
       ·exact .inl ⟨q1,sd @q2⟩
       ·exact .inr ⟨w',sd @q1,by(have h9:=dW q5);simp only[go_sem, ↓reduceIte,Nat.reduceEqDiff,Nat.reduceAdd,Nat.reduceSub,Nat.reduceLeDiff,reduceCtorEq,h9,q2],q3,q4,ad⟩,.inr ⟨⟨96011003,st_a.next+1+1+1⟩,by rw[yJ];simp only[go_sem, ↓reduceIte,Nat.reduceEqDiff,Nat.reduceAdd,Nat.reduceSub,Nat.reduceLeDiff,reduceCtorEq]<;>rfl,by rw[pj];simp only[go_sem, ↓reduceIte,Nat.reduceEqDiff,Nat.reduceAdd,Nat.reduceSub,Nat.reduceLeDiff,reduceCtorEq]<;>rfl,rfl,cE,cE⟩⟩)
      all_goals simp only[go_sem, ↓reduceIte,Nat.reduceEqDiff,Nat.reduceAdd,Nat.reduceSub,Nat.reduceLeDiff,reduceCtorEq,a38,ag0,ag1,ag2,a3,a4,a5,iL,xj,a37,w4,w5,wu,jM]
     ·have vw:=dW wo
      have wh:(M.map eN).length=M.length:=by simp
      have AM:M.length<=16777215:=ad
      have uw:=dE (a:=u) (b:=w) ad
      have x4:=fy hws (b:=96000000) (v:=σ.next) (by decide)
      have x5:=fy hws (b:=96000001) (v:=σ.next) (by decide)
      (repeat(first|((repeat(revert hN;revert N;apply Pn.out));refine wk (tw @a38 (tw @ag0 (tw @ag1 (tw @ag2 (tw @a3 (tw @a4 (tw @a5 (tw @iL (tw @xj (tw @a37 (tw @a12 (tw @zM (tw @vw (tw @uw (tw @x4 (tw @x5 (tw @wh (tw @AM (tw @w4 (tw @w5 (tw @wu (tw @hk (tw @hg @jM))))))))))))))))))))))) ?_;(repeat(refine Pn.mk ?_;intro N hN)))|((try apply Or.inl);refine⟨_,ak.x (hc) (sd (tw @a38 (tw @ag0 (tw @ag1 (tw @ag2 (tw @a3 (tw @a4 (tw @a5 (tw @iL (tw @xj (tw @a37 (tw @a12 (tw @zM (tw @vw (tw @uw (tw @x4 (tw @x5 (tw @wh (tw @AM (tw @w4 (tw @w5 (tw @wu (tw @hk (tw @hg @jM)))))))))))))))))))))))),?_⟩;refine hN _ _ ?_;clear hN N)))
      refine bK ?_ ?_ ?_ ?_ (by(try dsimp only);exact⟨ad,fun i hi=>(by have h8:=aF i hi;have h9:=dW (i:=i) (n:=st_a.next) ad;have h7:=dE (a:=i) (b:=w) ad;simp only[go_sem, ↓reduceIte,Nat.reduceEqDiff,Nat.reduceAdd,Nat.reduceSub,Nat.reduceLeDiff,reduceCtorEq,h7,h8,h9]),by
       rw[xl]
       rcases aL with⟨q1,q2⟩|⟨w',q1,q2,q3,q4,q5⟩
       ·exact .inl ⟨q1,sd @q2⟩
       ·exact .inr ⟨w',sd @q1,by(have h9:=dW q5);(have h7:=uh q3 hws (by decide));simp only[go_sem, ↓reduceIte,Nat.reduceEqDiff,Nat.reduceAdd,Nat.reduceSub,Nat.reduceLeDiff,reduceCtorEq,h9,h7,q2],q3,q4,ad⟩,.inr ⟨⟨96011003,st_a.next+1+1+1⟩,by rw[yJ];simp only[go_sem, ↓reduceIte,Nat.reduceEqDiff,Nat.reduceAdd,Nat.reduceSub,Nat.reduceLeDiff,reduceCtorEq]<;>rfl,by rw[pj];simp only[go_sem, ↓reduceIte,Nat.reduceEqDiff,Nat.reduceAdd,Nat.reduceSub,Nat.reduceLeDiff,reduceCtorEq]<;>rfl,rfl,cE,cE⟩⟩)
      all_goals simp only[go_sem, ↓reduceIte,Nat.reduceEqDiff,Nat.reduceAdd,Nat.reduceSub,Nat.reduceLeDiff,reduceCtorEq,a38,ag0,ag1,ag2,a3,a4,a5,iL,xj,a37,w4,w5,wu,uw,x4,x5,jM]
    ·rw[hb]at xl pe hT
     have hd:decide (k∈cut)=false:=decide_eq_false fun h=>by have:=hT.1 h;cases this
     rw[hd]at hc
     simp only[Bool.not_true,if_true,Bool.false_eq_true,if_false,List.append_nil]at xl pe
     have pj:((p.take (k+1)).filter T).map eN=((p.take k).filter T).map eN++[[.int .i64 ((p.getD k 0:Nat):Int)]]:=by rw[xl,List.map_append];rfl
     have yJ:((p.take (k+1)).filter T).length=((p.take k).filter T).length+1:=by rw[xl];simp
     generalize (p.take k).filter T=M at aL pj yJ sJ
     rcases aL with⟨hM,iM⟩|⟨w,iM,zM,hws,pq,wo⟩
     ·subst hM
      (repeat(first|((repeat(revert hN;revert N;apply Pn.out));refine wk (tw @a38 (tw @ag0 (tw @ag1 (tw @ag2 (tw @a3 (tw @a4 (tw @a5 (tw @iL (tw @xj (tw @a37 (tw @iM (tw @w4 (tw @w5 (tw @wu (tw @hk (tw @hg @jM)))))))))))))))) ?_;(repeat(refine Pn.mk ?_;intro N hN)))|((try apply Or.inl);refine⟨_,ak.x (hc) (sd (tw @a38 (tw @ag0 (tw @ag1 (tw @ag2 (tw @a3 (tw @a4 (tw @a5 (tw @iL (tw @xj (tw @a37 (tw @iM (tw @w4 (tw @w5 (tw @wu (tw @hk (tw @hg @jM))))))))))))))))),?_⟩;refine hN _ _ ?_;clear hN N)))
      refine bK ?_ ?_ ?_ ?_ (by(try dsimp only);exact⟨ad,fun i hi=>(by have h8:=aF i hi;have h9:=dW (i:=i) (n:=st_a.next) ad;simp only[go_sem, ↓reduceIte,Nat.reduceEqDiff,Nat.reduceAdd,Nat.reduceSub,Nat.reduceLeDiff,reduceCtorEq,h8,h9]),.inr ⟨⟨96012003,st_a.next+1+1+1⟩,by rw[yJ];simp only[go_sem, ↓reduceIte,Nat.reduceEqDiff,Nat.reduceAdd,Nat.reduceSub,Nat.reduceLeDiff,reduceCtorEq]<;>rfl,by rw[pj];simp only[go_sem, ↓reduceIte,Nat.reduceEqDiff,Nat.reduceAdd,Nat.reduceSub,Nat.reduceLeDiff,reduceCtorEq]<;>rfl,rfl,cE,cE⟩,by
       rw[pe]
       rcases aR with⟨q1,q2⟩|⟨w',q1,q2,q3,q4,q5⟩
       ·exact .inl ⟨q1,sd @q2⟩
       ·exact .inr ⟨w',sd @q1,by(have h9:=dW q5);simp only[go_sem, ↓reduceIte,Nat.reduceEqDiff,Nat.reduceAdd,Nat.reduceSub,Nat.reduceLeDiff,reduceCtorEq,h9,q2],q3,q4,ad⟩⟩)
      all_goals simp only[go_sem, ↓reduceIte,Nat.reduceEqDiff,Nat.reduceAdd,Nat.reduceSub,Nat.reduceLeDiff,reduceCtorEq,a38,ag0,ag1,ag2,a3,a4,a5,iL,xj,a37,w4,w5,wu,jM]
     ·have vw:=dW wo
      have wh:(M.map eN).length=M.length:=by simp
      have AM:M.length<=16777215:=ad
      have uw:=dE (a:=u) (b:=w) ad
      have x4:=fy hws (b:=96000000) (v:=σ.next) (by decide)
      have x5:=fy hws (b:=96000001) (v:=σ.next) (by decide)
      (repeat(first|((repeat(revert hN;revert N;apply Pn.out));refine wk (tw @a38 (tw @ag0 (tw @ag1 (tw @ag2 (tw @a3 (tw @a4 (tw @a5 (tw @iL (tw @xj (tw @a37 (tw @iM (tw @zM (tw @vw (tw @uw (tw @x4 (tw @x5 (tw @wh (tw @AM (tw @w4 (tw @w5 (tw @wu (tw @hk (tw @hg @jM))))))))))))))))))))))) ?_;(repeat(refine Pn.mk ?_;intro N hN)))|((try apply Or.inl);refine⟨_,ak.x (hc) (sd (tw @a38 (tw @ag0 (tw @ag1 (tw @ag2 (tw @a3 (tw @a4 (tw @a5 (tw @iL (tw @xj (tw @a37 (tw @iM (tw @zM (tw @vw (tw @uw (tw @x4 (tw @x5 (tw @wh (tw @AM (tw @w4 (tw @w5 (tw @wu (tw @hk (tw @hg @jM)))))))))))))))))))))))),?_⟩;refine hN _ _ ?_;clear hN N)))
      refine bK ?_ ?_ ?_ ?_ (by(try dsimp only);exact⟨ad,fun i hi=>(by have h8:=aF i hi;have h9:=dW (i:=i) (n:=st_a.next) ad;have h7:=dE (a:=i) (b:=w) ad;simp only[go_sem, ↓reduceIte,Nat.reduceEqDiff,Nat.reduceAdd,Nat.reduceSub,Nat.reduceLeDiff,reduceCtorEq,h7,h8,h9]),.inr ⟨⟨96012003,st_a.next+1+1+1⟩,by rw[yJ];simp only[go_sem, ↓reduceIte,Nat.reduceEqDiff,Nat.reduceAdd,Nat.reduceSub,Nat.reduceLeDiff,reduceCtorEq]<;>rfl,by rw[pj];simp only[go_sem, ↓reduceIte,Nat.reduceEqDiff,Nat.reduceAdd,Nat.reduceSub,Nat.reduceLeDiff,reduceCtorEq]<;>rfl,rfl,cE,cE⟩,by
       rw[pe]
       rcases aR with⟨q1,q2⟩|⟨w',q1,q2,q3,q4,q5⟩
       ·exact .inl ⟨q1,sd @q2⟩
       ·exact .inr ⟨w',sd @q1,by(have h9:=dW q5);(have h7:=uh q3 hws (by decide));simp only[go_sem, ↓reduceIte,Nat.reduceEqDiff,Nat.reduceAdd,Nat.reduceSub,Nat.reduceLeDiff,reduceCtorEq,h9,h7,q2],q3,q4,ad⟩⟩)
      all_goals simp only[go_sem, ↓reduceIte,Nat.reduceEqDiff,Nat.reduceAdd,Nat.reduceSub,Nat.reduceLeDiff,reduceCtorEq,a38,ag0,ag1,ag2,a3,a4,a5,iL,xj,a37,w4,w5,wu,uw,x4,x5,jM]
   ·have jz:k=p.length:=ad
    subst jz
    rw[List.take_length]at aL aR
    have hft:=lq T p
    have DQ:0<(p.filter T).length:=by
     obtain⟨x,hx,uN⟩:=k1
     exact List.length_pos_of_mem (List.mem_filter.2 ⟨hx,uN⟩)
    have OS:0<(p.filter fun x=> !T x).length:=by
     obtain⟨x,hx,uN⟩:=k2
     exact List.length_pos_of_mem (List.mem_filter.2 ⟨hx,by rw[uN];rfl⟩)
    obtain⟨w1,iM,xm,DS,DV,Se⟩:∃w:Id,env_a 11=.own w 0 (p.filter T).length/\st_a.get w=some ⟨true,1,(p.filter T).map eN⟩/\w.site=96012003/\st1.next<=w.bR/\w.bR<st_a.next:=by
     rcases aL with⟨q1,_⟩|h
     ·rw[q1]at DQ;simp at DQ
     ·exact h
    obtain⟨w2,a12,DN,IX,NC,Sf⟩:∃w:Id,env_a 12=.own w 0 (p.filter fun x=> !T x).length/\st_a.get w=some ⟨true,1,(p.filter fun x=> !T x).map eN⟩/\w.site=96011003/\st1.next<=w.bR/\w.bR<st_a.next:=by
     rcases aR with⟨q1,_⟩|h
     ·rw[q1]at OS;simp at OS
     ·exact h
    have OU:w1≠w2:=fun e=>by rw[e]at DS;rw[DS]at IX;revert IX;decide
    have Sp:=fun σ' h1 h2=>ih (p.filter T) w1 σ' ad (hR.left Kz k1 k2 Gh) h1 h2
    have Pp:=fun σ' h1 h2=>ih (p.filter fun x=> !T x) w2 σ' ad (hR.right Kz k1 k2 Gh) h1 h2
    have lu:∀R1 R2,rZ l.length (cI s l) t (p.filter T) R1->rZ l.length (cI s l) t (p.filter fun x=> !T x) R2->rZ l.length (cI s l) t p (R1++R2):=fun R1 R2 q1 q2=>.two Kz k1 k2 Gh q1 q2
    generalize p.filter T=P1 at iM xm Sp lu DQ hft
    generalize (p.filter fun x=> !T x)=P2 at a12 DN Pp lu OS hft
    have y1:=dW Se
    have y2:=dW Sf
    rw[aa]at ag0 Sp Pp
    (try((repeat(revert hN;revert N;apply Pn.out));refine wk (tw @a38 (tw @ag0 (tw @ag1 (tw @ag2 (tw @a3 (tw @a4 (tw @a5 (tw @iL (tw @xj (tw @a37 (tw @iM (tw @a12 (tw @w4 (tw @w5 (tw @wu @hk))))))))))))))) ?_;(repeat(refine Pn.mk ?_;intro N hN))))
    refine BX (fun e st=>∃R o rows is,rZ l.length (cI s l) t p R/\e 8=.own o 0 R.length/\st.get o=some ⟨true,1,rows⟩/\cW qN st.get rows R is/\(σ.next<=o.bR/\o.bR<st.next)/\(∀i∈is,σ.next<=i.bR/\i.bR<st.next)/\(o::is).Nodup/\σ.next<=st.next/\∀i:Id,i.bR<σ.next->st.get i=σ.get i) ?_ ?_
    ·rintro e st ⟨R,o,rows,is,q1,q2,q3,q4,q5,q6,q7,q8,q9⟩
     refine hN _ _ ?_
     clear hN N
     (try((repeat(revert hN;revert N;apply Pn.out));refine wk @q2 ?_;(repeat(refine Pn.mk ?_;intro N hN))))
     exact gI (.inl rfl) (vs:=[.own o 0 R.length]) (sd @q2) ⟨R,o,rows,is,q1,rfl,q3,q4,q5,fun i hi=>⟨.inr (q6 i hi).1,(q6 i hi).2⟩,q7,q8,q9⟩
    ·intro N hN
     refine eE ?_ (eE ?_ ?_)<;>(try((repeat(revert hN;revert N;apply Pn.out));refine wk (tw @a38 (tw @ag0 (tw @ag1 (tw @ag2 (tw @a3 (tw @a4 (tw @a5 (tw @iL (tw @xj (tw @a37 (tw @iM (tw @a12 (tw @w4 (tw @w5 @wu)))))))))))))) ?_;(repeat(refine Pn.mk ?_;intro N hN))))<;>(try refine eE ?_ ?_)<;>(try((repeat(revert hN;revert N;apply Pn.out));refine wk (tw @a38 (tw @ag0 (tw @ag1 (tw @ag2 (tw @a3 (tw @a4 (tw @a5 (tw @iL (tw @xj (tw @a37 (tw @iM (tw @a12 (tw @w4 (tw @w5 @wu)))))))))))))) ?_;(repeat(refine Pn.mk ?_;intro N hN))))
     all_goals
      refine .inr (bd _ _ _ _ _ (fun r σ1 hq=>?_) (Sp _ (sd (tw @y1 @xm)) cE))
      obtain⟨R1,p1,PI,is1,b1,rfl,go1,Gv,⟨Qw,Pz⟩,CA,nd1,n1,f1⟩:=hq
      obtain⟨g1,x1⟩:=σ1
      (try dsimp only at go1 Gv Qw Pz CA n1 f1)
      have c4:=f1 ⟨96000000,σ.next⟩ cE
      have c5:=f1 ⟨96000001,σ.next⟩ cE
      have c2:=f1 w2 cE
      simp only[go_sem, ↓reduceIte,Nat.reduceEqDiff,Nat.reduceAdd,Nat.reduceSub,Nat.reduceLeDiff,reduceCtorEq,w4,w5,ag0,ag1]at c4 c5
      simp only[go_sem, ↓reduceIte,Nat.reduceEqDiff,Nat.reduceAdd,Nat.reduceSub,Nat.reduceLeDiff,reduceCtorEq,y2,DN]at c2
      refine hN _ _ ?_
      clear hN N
      (try((repeat(revert hN;revert N;apply Pn.out));refine wk (tw @a38 (tw @ag0 (tw @ag1 (tw @ag2 (tw @a3 (tw @a4 (tw @a5 (tw @iL (tw @xj (tw @a37 (tw @iM (tw @a12 (tw @c4 @c5))))))))))))) ?_;(repeat(refine Pn.mk ?_;intro N hN))))
      refine .inr (bd _ _ _ _ _ (fun r σ2 hq=>?_) (Pp _ (sd @c2) cE))
      obtain⟨R2,p2,u3,Mg,b2,rfl,go2,tK,⟨ov2,Sv⟩,pg,nd2,n2,f2⟩:=hq
      obtain⟨g2,x2⟩:=σ2
      (try dsimp only at go2 tK ov2 Sv pg n2 f2)
      have d1:=(f2 p1 cE).trans go1
      have R6:=Gv.frame (g':=g2) sN fun i hi=>f2 i (by have:=(CA i hi).2;(try dsimp only);omega)
      have R7:=tK.all sN
      have l1:=Gv.len
      have l2:=tK.len
      have ht2:u3.take R2.length=u3:=List.take_of_length_le ad
      have lb1:=b1.2.2.2.2
      have lb2:=b2.2.2.2.2
      have LK:R1.length+R2.length<=16777216:=ad
      refine hN _ _ ?_
      clear hN N
      (try((repeat(revert hN;revert N;apply Pn.out));refine wk (tw @a38 (tw @ag0 (tw @ag1 (tw @ag2 (tw @a3 (tw @a4 (tw @a5 (tw @iL (tw @xj (tw @a37 (tw @d1 (tw @go2 (tw @R7 (tw @l1 (tw @l2 (tw @LK @ht2)))))))))))))))) ?_;(repeat(refine Pn.mk ?_;intro N hN))))
      have gQ:∀i∈is1++Mg,i.bR<x2/\i≠p1/\σ.next<=i.bR:=fun i hi=>by
       rcases List.mem_append.1 hi with hi|hi
       ·have h1:=CA i hi
        refine⟨by(try dsimp only at h1);omega,fun e=>(List.nodup_cons.1 nd1).1 (e▸hi),?_⟩
        rcases h1.1 with rfl|h1
        ·omega
        ·(try dsimp only at h1);omega
       ·have h1:=pg i hi
        refine⟨by(try dsimp only at h1);omega,fun e=>?_,?_⟩
        ·subst e
         rcases h1.1 with e|h1
         ·rw[e]at Qw;(try dsimp only at Qw);omega
         ·(try dsimp only at h1 Pz);omega
        ·rcases h1.1 with rfl|h1
         ·omega
         ·(try dsimp only at h1);omega
      refine⟨R1++R2,⟨96014010,x2⟩,_,is1++Mg,lu R1 R2 b1 b2,by rw[List.length_append];simp only[go_sem, ↓reduceIte,Nat.reduceEqDiff,Nat.reduceAdd,Nat.reduceSub,Nat.reduceLeDiff,reduceCtorEq]<;>rfl,sl @Nat.zero_add,?_,⟨cE,cE⟩,fun i hi=>?_,?_,cE,fun i hi=>?_⟩
      ·refine cW.frame (g:=g2) sN (R6.app tK) fun i hi=>?_
       obtain⟨h1,h2,_⟩:=gQ i hi
       have h9:=dW h1
       have h8:(i=p1)=False:=eq_false h2
       simp only[go_sem, ↓reduceIte,Nat.reduceEqDiff,Nat.reduceAdd,Nat.reduceSub,Nat.reduceLeDiff,reduceCtorEq,h8,h9]
      ·obtain⟨h1,_,h3⟩:=gQ i hi
       exact⟨h3,cE⟩
      ·refine List.nodup_cons.2 ⟨fun h=>?_,List.nodup_append.2 ⟨(List.nodup_cons.1 nd1).2,(List.nodup_cons.1 nd2).2,fun i hi j hj e=>?_⟩⟩
       ·have:=(gQ _ h).1;(try dsimp only at this);omega
       ·subst e
        have h1:=CA i hi
        have h2:=pg i hj
        (try dsimp only at h1 h2)
        rcases h1.1 with e1|IF<;>rcases h2.1 with e2|uI
        ·exact OU (e1.symm.trans e2)
        ·rw[e1]at uI;omega
        ·rw[e2]at IF;omega
        ·omega
      ·have h7:=f2 i cE
       have h6:=f1 i cE
       have h5:=aF i hi
       have h9:=dW (i:=i) (n:=x2) ad
       have h8:(i=p1)=False:=eq_false fun e=>by rw[e]at hi;(try dsimp only at Qw);omega
       have h4:=dW (i:=i) (n:=st_a.next) ad
       (try simp only[go_sem, ↓reduceIte,Nat.reduceEqDiff,Nat.reduceAdd,Nat.reduceSub,Nat.reduceLeDiff,reduceCtorEq,h4]at h6)
       (try simp only[go_sem, ↓reduceIte,Nat.reduceEqDiff,Nat.reduceAdd,Nat.reduceSub,Nat.reduceLeDiff,reduceCtorEq,h4]at h7)
       simp only[go_sem, ↓reduceIte,Nat.reduceEqDiff,Nat.reduceAdd,Nat.reduceSub,Nat.reduceLeDiff,reduceCtorEq,h8,h9,h7,h6,h5]
  ·intro N hN
   refine eE ?_ ?_
   all_goals
    (try((repeat(revert hN;revert N;apply Pn.out));refine wk @Nat.zero_add ?_;(repeat(refine Pn.mk ?_;intro N hN))))
    refine .inl ⟨_,ak.x oL (Od (by simp only[aP,ab,ae,bu,Option.map_some]) (huz _ (sd (tw @hvu @hu)))),?_⟩
    refine hN _ _ ?_
    clear hN N
    (try((repeat(revert hN;revert N;apply Pn.out));refine wk @Nat.zero_add ?_;(repeat(refine Pn.mk ?_;intro N hN))))
    refine .inl ⟨_,ak.x tV (by simp only[ab,ae,aP,bu,Option.map_some]),?_⟩
    refine hN _ _ ?_
    clear hN N
    (try((repeat(revert hN;revert N;apply Pn.out));refine wk @Nat.zero_add ?_;(repeat(refine Pn.mk ?_;intro N hN))))
    refine .inr (bd _ _ _ _ _ (fun r σ1 hq=>?_) (Pf.x mixed))
    obtain⟨⟨dR,cut,rfl,Ct,tH⟩,rfl⟩:=hq
    refine hN _ _ ?_
    clear hN N
    (try((repeat(revert hN;revert N;apply Pn.out));refine wk @Nat.zero_add ?_;(repeat(refine Pn.mk ?_;intro N hN))))
    exact⟨dR,cut,sd @Nat.zero_add,sd @Nat.zero_add,sd @Nat.zero_add,sd @Nat.zero_add,sd @Nat.zero_add,sd @Nat.zero_add,Ct,tH,sl @Nat.zero_add,sd @Nat.zero_add,cE,fun i hi=>(by have h9:=dW hi;simp only[go_sem, ↓reduceIte,Nat.reduceEqDiff,Nat.reduceAdd,Nat.reduceSub,Nat.reduceLeDiff,reduceCtorEq,h9])⟩
end Go.Proofs.YtphenfakmdknlaaGreat.V

namespace Go.Proofs.YtphenfakmdknlaaGreat.V
open Go.RowKit Go.Shelf Go.Lib Go.Sort
theorem Grown.cell {w w':World} (h:Grown w w') {b o:Nat} (hb:b<w.heap.size):w'.cell? ⟨b,o,none⟩=w.cell? ⟨b,o,none⟩:=by
 obtain⟨q,os,rfl⟩:=h
 have e:(Go.Sort.grow (w.drewN q) os).heap[b]? =w.heap[b]? :=by rw[heap_grow_old _ _ (by simpa using hb)];rfl
 simp only[World.cell?,e]
def zQ (w:World) (v:Value) (p:List Nat):Prop:=∃b o cap,v=.slice (some ⟨b,o,none⟩) p.length cap/\b<w.heap.size/\∀j,j<p.length->w.cell? ⟨b,o+j,none⟩=some (.int .i64 ((p.getD j 0:Nat):Int))
theorem Ar (w:World) (u v:Value) (p q:List Nat) (hu:zQ w u p) (hv:zQ w v q) (hp:p.length<=1048576) (hq:q.length<=1048576):Calls Tryz.prog 98 #[u,v] w fun e w'=>e=.returned (.int .i64 (fS p q))/\Grown w w':=by
 obtain⟨b1,o1,c1,rfl,Ct,qo⟩:=hu
 obtain⟨b2,o2,c2,rfl,tH,yp⟩:=hv
 replace qo:=Lib.hid qo
 replace yp:=Lib.hid yp
 go_enter Tryz.func98,Tryz.ntmps98
 go_wp2_with fail
 go_loopw [11] (fun i wr=>∃k:Nat,k<=p.length/\i=.int .i64 k/\Hid (∀j,j<k->j<p.length/\j<q.length/\p.getD j 0=q.getD j 0)/\Grown w wr) (fun i _=>p.length-(intOf i).toNat)
 case atStart=>exact⟨0,Nat.zero_le _,rfl,Lib.hid (fun j h=>ad),Grown.refl _⟩
 case round=>
  obtain⟨k,hk,rfl,dy,hg⟩:=hrel
  by_cases ea:k<p.length
  ·have q1:=(hg.cell (o:=o1+k) Ct).trans (qo.out k ea)
   by_cases Gq:k<q.length
   ·have q2:=(hg.cell (o:=o2+k) tH).trans (yp.out k Gq)
    have e1:p.getD k 0=p[k]:=by simp[List.getD_eq_getElem?_getD,ea]
    have e2:q.getD k 0=q[k]:=by simp[List.getD_eq_getElem?_getD,Gq]
    by_cases he:p.getD k 0=q.getD k 0
    ·have hz:kK ((p[k]:Nat):Int) ((q[k]:Nat):Int)=0:=nr.2 ad
     go_wp2_with (go_at_call 205;refine(qU _ _ _).mono ?_;rintro e w' ⟨rfl,rfl⟩)
     ·refine⟨⟨k+1,ad,by simp,Lib.hid fun j hj=>?_,hg⟩,by simp[intOf];omega⟩
      by_cases uK:j=k
      ·subst uK;exact⟨ea,Gq,he⟩
      ·exact dy.out j ad
    ·have hz:¬kK ((p[k]:Nat):Int) ((q[k]:Nat):Int)=0:=fun h=>he (by have:=nr.1 h;omega)
     have hr:=Cd dy.out ea Gq he
     rw[e1,e2]at hr
     go_wp2_with (go_at_call 205;refine(qU _ _ _).mono ?_;rintro e w' ⟨rfl,rfl⟩)
     ·go_ret
      exact⟨zo hr.symm,hg⟩
   ·have hr:=uz dy.out ea (show q.length<=k by omega)
    go_wp2_with fail
    go_ret
    exact⟨zo hr.symm,hg⟩
  ·have jz:k=p.length:=ad
   have hr:=xS (p:=p) (q:=q) (fun j hj=>dy.out j ad)
   go_wp2_with fail
   ·rename_i h
    rw[if_pos (by simpa using h)]at hr
    go_ret
    exact⟨zo hr.symm,hg⟩
   ·rename_i h
    rw[if_neg (by simpa using h)]at hr
    go_ret
    exact⟨zo hr.symm,hg⟩
theorem Hq {g:Rows} {rows:List (List AV)} {R:List (List Nat)} {is:List Id} (h:cW qN g rows R is):∃u:Nat->Id,is=(List.range R.length).map u/\∀i (hi:i<R.length),rows[i]? =some [.own (u i) 0 R[i].length]/\g (u i)=some ⟨true,1,R[i].map eN⟩:=by
 induction h with
 |nil=>exact⟨fun _=>⟨0,0⟩,rfl,fun i hi=>by simp at hi⟩
 |cons h1 _ ih=>
  obtain⟨u0,rfl,h2,rfl⟩:=h1
  obtain⟨u,rfl,hu⟩:=ih
  refine⟨fun|0=>u0|i+1=>u i,by rw[List.length_cons,List.range_succ_eq_map,List.map_cons,List.map_map];rfl,fun i hi=>?_⟩
  cases i with
  |zero=>exact⟨rfl,h2⟩
  |succ i=>exact hu i (by simpa using hi)
theorem zp {g:Rows} {u:Nat->Id} {R:Nat->List Nat}:∀L:List Nat,(∀i∈L,g (u i)=some ⟨true,1,(R i).map eN⟩)->cW qN g (L.map fun i=>[.own (u i) 0 (R i).length]) (L.map R) (L.map u)
 |[],_=>.nil
 |i::L,h=>by
  have h1:=zp L fun j hj=>h j (by simp[hj])
  exact cW.cons (i1:=[u i]) ⟨u i,rfl,h i (by simp),rfl⟩ h1
theorem Sz {α:Type} (f:α->List Nat):SWO (ltOf fun x y=>fS (f x) (f y)) where
 irrefl x:=by simp[ltOf,xT]
 trans x y z h1 h2:=by
  simp only[ltOf,decide_eq_true_eq]at *
  exact sq h1 h2
 ntrans x y z h1 h2:=by
  simp only[ltOf,decide_eq_false_iff_not]at *
  exact qT h1 h2
theorem EO {α:Type} [Inhabited α] (enc:α->Value) (w:World) (vH m:Nat) (dk:Array α) (os:Array Obj) {b o:Nat} (hb:b<w.heap.size) (gQ:b≠vH):(sortWorld enc w vH 0 m dk os).cell? ⟨b,o,none⟩=w.cell? ⟨b,o,none⟩:=by
 have e:(sortWorld enc w vH 0 m dk os).heap[b]? =w.heap[b]? :=by
  unfold sortWorld
  rw[heap_grow_old _ _ (by simpa using hb)]
  simp only[Go.Sort.putRow,Go.Sort.mapBlock,heap_ahead,Array.getElem?_modify]
  rw[if_neg (fun h=>gQ h.symm)]
 simp only[World.cell?,e]
theorem Ht (R:List (List Nat)) (jo:0<R.length) (hlen:R.length<=1048576) (Ox:∀p∈R,p.length<=1048576) (σ:ar) (o:Id) (rows:List (List AV)) (is:List Id) (hg:σ.get o=some ⟨true,1,rows⟩) (hr:cW qN σ.get rows R is) (kD:(o::is).Nodup):
  Call Tryz.prog 97 [.own o 0 R.length,.fn 98 []] σ fun r σ'=>∃R' rows' is',R'.Perm R/\is'.Perm is/\σ'.get o=some ⟨true,1,rows'⟩/\cW qN σ'.get rows' R' is'/\(∀i j (_:i<j) (hj:j<R'.length),¬fS R'[j] (R'[i]'ad)<0)/\σ'.next=σ.next/\∀x,x≠o->σ'.get x=σ.get x:=by
 refine gr fun hs D ι w vs S U A=>?_
 obtain⟨u1,us1,rfl,h1,h2⟩:=uY A
 obtain⟨u2,us2,h3,h4,h5⟩:=uY h2
 simp at h3;subst h3
 have:=Hj h5
 simp at this;subst this
 obtain⟨off,cap,B,rfl,hB,Gd,ho,yu,hmax,hk⟩:=gD h1
 obtain⟨SC,gf,rfl,_,hz,_,_⟩:=wS h4
 have hz':SC= #[]:=Array.eq_empty_of_size_eq_zero (by simpa using hz)
 subst hz'
 obtain⟨B',dH,RO,jH,hndB⟩:=S.row o _ hg
 rw[hB]at dH;injection dH with dH;subst dH
 have RR:=RO.row hk
 have eU:B.sz=1:=RR.sz
 have zK:off=0:=by rcases ho with h|h<;>omega
 subst zK
 obtain⟨cur,T,hblk,dx⟩:=RR.vH
 have re:B.b<w.heap.size:=(Array.getElem?_eq_some_iff.1 hblk).1
 obtain⟨u,RB,hu⟩:=Hq hr
 have qp:=hr.len
 have yv:R.length<=B.C:=by have:=RR.fits;simp only[Nat.mul_one]at this;omega
 have key:∀i:Fin R.length,∃v:Value,w.cell? ⟨B.b,i.1,none⟩=some v/\cQ Tryz.prog w D ι (.own (u i.1) 0 R[i.1].length) v/\∃b c cp,v=.slice (some ⟨b,c,none⟩) R[i.1].length cp/\b≠B.b/\b<w.heap.size/\∀j,j<R[i.1].length->w.cell? ⟨b,c+j,none⟩=some (.int .i64 ((R[i.1].getD j 0:Nat):Int)):=fun i=>by
  obtain⟨CF,IZ⟩:=hu i.1 i.2
  obtain⟨v,hv,jV⟩:=RR.at_ i.1 0 _ _ CF rfl
  rw[Nat.mul_one,Nat.add_zero]at hv
  refine⟨v,hv,jV,?_⟩
  obtain⟨c,cp,Bi,rfl,hBi,hcp,hc,_,_,RF⟩:=gD jV
  obtain⟨Bi',IG,ROi,_,_⟩:=S.row _ _ IZ
  rw[hBi]at IG;injection IG with IG;subst IG
  have Ri:=ROi.row RF
  obtain⟨ci,Ti,fG,_⟩:=Ri.vH
  refine⟨Bi.b,c,cp,rfl,fun e=>?_,(Array.getElem?_eq_some_iff.1 fG).1,fun j hj=>?_⟩
  ·have:=S.inj _ _ _ _ _ _ IZ hg rfl hBi hB e
   exact(List.nodup_cons.1 kD).1 (by rw[<-this,RB];exact List.mem_map.2 ⟨i.1,List.mem_range.2 i.2,rfl⟩)
  ·have jF:c=0:=by rcases hc with h|h<;>omega
   subst jF
   obtain⟨v',lU,lS⟩:=Ri.at_ j 0 _ _ (oc hj) rfl
   rw[dz lS,Nat.mul_one,Nat.add_zero]at lU
   rw[Nat.zero_add];exact lU
 obtain⟨val,nU⟩:∃val:Fin R.length->Value,∀i:Fin R.length,w.cell? ⟨B.b,i.1,none⟩=some (val i)/\cQ Tryz.prog w D ι (.own (u i.1) 0 R[i.1].length) (val i)/\∃b c cp,val i=.slice (some ⟨b,c,none⟩) R[i.1].length cp/\b≠B.b/\b<w.heap.size/\∀j,j<R[i.1].length->w.cell? ⟨b,c+j,none⟩=some (.int .i64 ((R[i.1].getD j 0:Nat):Int)):=⟨fun i=>Classical.choose (key i),fun i=>Classical.choose_spec (key i)⟩
 clear key
 haveI:Inhabited (Fin R.length):=⟨⟨0,jo⟩⟩
 obtain⟨d,hd⟩:∃d:Array (Fin R.length),d=Array.ofFn fun i=>i:=⟨_,rfl⟩
 have LL:d.size=R.length:=by rw[hd];simp
 have Rm:∀j (hj:j<R.length),d[j]! =⟨j,hj⟩:=fun j hj=>by rw[getElem!_pos d j ad];subst hd;simp
 have hH:Holds val w B.b 0 d:=fun j hj=>by
  rw[Rm j ad,Nat.zero_add]
  exact⟨(nU ⟨j,ad⟩).1,by simp only[World.frozen?,hblk];simp⟩
 have QZ:OneCell val:=fun x=>by
  obtain⟨_,_,b,c,cp,e,_⟩:=nU x
  rw[e];rfl
 have Rh:CmpLays1 Tryz.prog 98 #[] val (fun x y=>fS R[x.1] R[y.1]) B.b 0 d.size w:=fun m os dk _ x y=>by
  have kY:∀x:Fin R.length,zQ (sortWorld val w B.b 0 m dk os) (val x) R[x.1]:=fun x=>by
   obtain⟨_,_,b,c,cp,e,gQ,hb,iV⟩:=nU x
   refine⟨b,c,cp,e,?_,fun j hj=>by rw[EO val w B.b m dk os hb gQ];exact iV j hj⟩
   have:w.heap.size<=(sortWorld val w B.b 0 m dk os).heap.size:=by unfold sortWorld;rw[size_grow];simp
   omega
  refine(Ar _ _ _ _ _ (kY x) (kY y) (Ox _ (List.getElem_mem _)) (Ox _ (List.getElem_mem _))).mono ?_
  rintro e w' ⟨rfl,q,os',hw⟩
  exact⟨rfl,q,os',hw⟩
 have eg:∀args w,(callFunc 98 args).run Tryz.prog w=.ok (.enter 98 args) w:=enters_of Tryz.func98 (by kernel_rfl) rfl
 have Oz:Calls Tryz.prog 97 #[.slice (some ⟨B.b,0,none⟩) d.size cap,.func (.func 98) #[] #[]] w _:=Any.slices_SortFunc Tryz.MH val QZ (fun x y:Fin R.length=>fS R[x.1] R[y.1]) (Sz fun x:Fin R.length=>R[x.1]) 98 #[] B.b 0 cap d w eg Rh hH re ad
 rw[LL]at Oz
 refine Oz.mono ?_
 rintro e w' ⟨rfl,d',m,os,⟨DS,_,yE⟩,hsort,rfl⟩
 have hds:d'.size=R.length:=by rw[DS,LL]
 have hP:d'.toList.Perm d.toList:=by
  have ex:∀(a:Array (Fin R.length)) (m:Nat),a.size=m->a.extract 0 m=a:=fun a m hm=>by subst hm;exact Array.extract_size
  have e1:=ex d' _ hds
  have e2:=ex d _ LL
  rw[e1,e2]at yE
  simpa using yE
 have DL:d.toList.map (fun i=>i.1)=List.range R.length:=by
  rw[hd]
  refine List.ext_getElem (by simp) fun i h1 h2=>by simp
 obtain⟨L,hL⟩:∃L:List Nat,L=d'.toList.map fun i=>i.1:=⟨_,rfl⟩
 have P9:L.Perm (List.range R.length):=by rw[hL,<-DL];exact hP.map _
 have Q8:L.length=R.length:=by rw[P9.length_eq,List.length_range]
 have LJ:∀i∈L,i<R.length:=fun i hi=>List.mem_range.1 (P9.mem_iff.1 hi)
 have Ol:∀j (hj:j<R.length),L[j]? =some (d'[j]!).1:=fun j hj=>by
  rw[hL,List.getElem?_map,getElem!_pos d' j ad]
  simp[hds,hj]
 obtain⟨Rf,hRf⟩:∃Rf:Nat->List Nat,Rf=fun i=>R.getD i []:=⟨_,rfl⟩
 have IH:∀i (hi:i<R.length),Rf i=R[i]:=fun i hi=>by rw[hRf];simp[List.getD_eq_getElem?_getD,hi]
 have On:(List.range R.length).map Rf=R:=by
  refine List.ext_getElem (by simp) fun i h1 h2=>?_
  simp[IH i h2]
 have sK:=S.put (r':=⟨true,1,L.map fun i=>[.own (u i) 0 (Rf i).length]⟩) (cur':=Go.Sort.putCells val 0 d' cur) hg rfl hB hblk (by simp[Go.Sort.putCells]) rfl rfl (by simpa[Q8]using yv) (fun cs dx=>by
   obtain⟨x,_,rfl⟩:=List.mem_map.1 dx;rfl) (fun cs dx a ha=>by
   obtain⟨x,_,rfl⟩:=List.mem_map.1 dx
   simp at ha;subst ha;rfl) (fun i j cs a hi hj=>by
   have pg:i<L.length:=by
    have:=(List.getElem?_eq_some_iff.1 hi).1
    simpa using this
   have hiR:i<R.length:=ad
   have Ku:j=0:=by
    have:=List.mem_of_getElem? hi
    obtain⟨x,_,rfl⟩:=List.mem_map.1 this
    have:=(List.getElem?_eq_some_iff.1 hj).1
    simp at this;omega
   subst Ku
   rw[List.getElem?_map,Ol i hiR]at hi
   simp at hi
   subst hi
   simp at hj
   subst hj
   refine⟨val d'[i]!,?_,?_⟩
   ·have kY:i<cur.size:=by rw[dx];omega
    show(Go.Sort.putCells val 0 d' cur)[i*1+0]? = _
    simp only[Nat.mul_one,Nat.add_zero,Go.Sort.putCells,Array.getElem?_mapIdx,Array.getElem?_eq_getElem kY,Option.map_some]
    rw[if_pos ⟨Nat.zero_le _,ad⟩,Nat.sub_zero]
   ·rw[IH _ (d'[i]!).2]
    exact(nU d'[i]!).2.1)
 obtain⟨S1,K4⟩:=sK
 have hw:sortWorld val w B.b 0 m d' os=Go.Sort.grow (Go.Sort.putRow val (Go.Sort.ahead w m) B.b 0 d') os:=rfl
 rw[hw]
 have O8:(Go.Sort.putRow val (Go.Sort.ahead w m) B.b 0 d').heap.size=w.heap.size:=by simp
 have Kp:∀k,k<(w.setRow B.b (Go.Sort.putCells val 0 d' cur)).heap.size->(Go.Sort.grow (Go.Sort.putRow val (Go.Sort.ahead w m) B.b 0 d') os).heap[k]? =(w.setRow B.b (Go.Sort.putCells val 0 d' cur)).heap[k]? :=fun k hk=>by
  have Gp:k<w.heap.size:=by simpa using hk
  rw[heap_grow_old _ _ (by rw[O8];exact Gp)]
  simp only[Go.Sort.putRow,Go.Sort.mapBlock,heap_ahead,Array.getElem?_modify]
  by_cases RE:B.b=k
  ·subst RE
   rw[setRow_heap w B.b cur _ T _ hblk,if_pos rfl,hblk];rfl
  ·rw[if_neg RE,setRow_other w B.b k _ (fun h=>RE h.symm)]
 have jw:(w.setRow B.b (Go.Sort.putCells val 0 d' cur)).heap.size<=(Go.Sort.grow (Go.Sort.putRow val (Go.Sort.ahead w m) B.b 0 d') os).heap.size:=by
  rw[size_grow,O8];simp
 have S2:=S1.stay (D':=D) (ι':=ι) Kp jw (fun _ h=>h) (fun b hb=>Nat.lt_of_lt_of_le (S1.dead b hb) jw) (fun _ h=>.inl h) (fun _ _ h=>h)
 have K5:=K4.trans (Step.stay (D':=D) (ι':=ι) S1 Kp jw (by simp[Go.Sort.grow,Go.Sort.putRow,Go.Sort.mapBlock,Go.Sort.ahead]) (by simp[Go.Sort.grow,Go.Sort.putRow,Go.Sort.mapBlock,Go.Sort.ahead]) (by simp[Go.Sort.grow,Go.Sort.putRow,Go.Sort.mapBlock,Go.Sort.ahead]) (fun _ h=>h) (fun _ h=>.inl h) (fun _ _ h=>h))
 refine⟨.im [],bC σ.get o ⟨true,1,L.map fun i=>[.own (u i) 0 (Rf i).length]⟩,σ.next,D,ι,_,rfl,⟨L.map Rf,_,L.map u,?_,?_,by simp[bC],zp L fun i hi=>?_,fun i j DO hj=>?_,rfl,fun x hx=>by simp[bC,hx]⟩,K5,S2,U,Nat.le_refl _,.im [] #[] (fun _=>Go.undef) rfl (fun j hj=>by simp at hj) (fun j a h=>by simp at h)⟩
 ·have:=P9.map Rf
  rwa [On]at this
 ·rw[RB];exact P9.map u
 ·have gQ:u i≠o:=fun e=>(List.nodup_cons.1 kD).1 (by rw[<-e,RB];exact List.mem_map.2 ⟨i,List.mem_range.2 (LJ i hi),rfl⟩)
  have:=(hu i (LJ i hi)).2
  simp only[bC,gQ,if_false]
  rw[IH i (LJ i hi)];exact this
 ·have Ku:j<L.length:=by simpa using hj
  have h:=hsort i j (Nat.zero_le _) DO ad
  simp only[ltOf,decide_eq_false_iff_not]at h
  have e1:∀k (hk:k<L.length),(L.map Rf)[k]'(by simpa using hk)=R[(d'[k]!).1]:=fun k hk=>by
   have h2:=Ol k ad
   rw[List.getElem?_eq_getElem hk]at h2
   injection h2 with h2
   rw[List.getElem_map,h2,IH _ (d'[k]!).2]
  rw[e1 j Ku,e1 i ad]
  exact h
end Go.Proofs.YtphenfakmdknlaaGreat.V

namespace Go.Proofs.YtphenfakmdknlaaGreat.V
open Go.RowKit
attribute [local irreducible] dJ wpOps e8 Call
attribute [local go_sem] ax eB dY eJ eI cJ upd bD K.av bW AV.cells AV.cell rowOf rowsOf part ld rowAt bC bx cU de fj bf cC dv eO er cL dm cw cu cZ da bl aI bZ bj ck cj di dn dj bY bo cz dh bh au cq bJ fh aT bV bm aH cS aQ cV AV.undef aV bc db dd cY dc bQ du dw bG dq dp cm cr List.getD_cons_zero List.getD_cons_succ List.getD_nil List.all_cons List.all_nil Bool.and_true Bool.true_and Bool.and_self Bool.not_true Bool.not_false Option.map_some Option.map_none Option.bind_some Option.bind_none List.length_cons List.length_nil List.take_succ_cons List.take_zero List.take_nil List.drop_succ_cons List.drop_zero List.drop_nil List.head?_cons List.map_cons List.map_nil List.getElem?_cons_zero List.getElem?_cons_succ List.cons_append List.nil_append List.append_nil List.length_map List.set_cons_zero List.set_cons_succ Nat.reduceMul eq_self Int.toNat_natCast Int.natCast_nonneg and_self true_and and_true decide_true decide_false Bool.false_eq_true Nat.zero_add Nat.add_zero List.contains_cons List.contains_nil Bool.or_false Bool.false_or beq_self_eq_true Nat.reduceBEq ne_eq not_true_eq_false not_false_eq_true Id.mk.injEq false_and and_false Nat.reduceLT Int.reduceLE Int.reduceLT Int.reduceToNat Int.reduceNeg Int.reduceAdd Nat.le_refl List.length_append beq_true beq_false Bool.not_eq_eq_eq_not or_false false_or dG ab ae az aU bu aC aP aE aJ cD aX
noncomputable def ju (s:ao) (l:List ai) (t:Int):Int:=if nW s=true/\oq s l=true then(if ig t 1 16=true then(if l.length<=64 then 0 else 4)else 2)else 1
noncomputable def qe (n:Nat) (bs:List PB) (t:Int):List (List Nat):=Classical.epsilon fun R=>dZ n bs t R/\(∀p∈R,ft bs t p)/\R.Pairwise fun a b=>a.headD 0<b.headD 0
theorem rJ {n:Nat} {bs:List PB} {t:Int} (hs:∀b∈bs,0<=b.s) (ht:1<=t):dZ n bs t (qe n bs t)/\(∀p∈qe n bs t,ft bs t p)/\(qe n bs t).Pairwise fun a b=>a.headD 0<b.headD 0:=
 Classical.epsilon_spec (zi n bs t hs ht)
theorem Ir {n:Nat} {bs:List PB} {t:Int} (hs:∀b∈bs,0<=b.s) (ht:1<=t) {R:List (List Nat)} (h1:dZ n bs t R) (h2:∀p∈R,ft bs t p) (h3:R.Pairwise fun a b=>a.headD 0<b.headD 0):R=qe n bs t:=by
 obtain⟨k1,k2,k3⟩:=rJ (n:=n) hs ht
 exact sH h3 k3 (s5 h1 k1 h2 k2)
theorem wV {R:List (List Nat)} (h0:∀p∈R,p≠[]) (ha:R.Pairwise fun p q=>∀x∈p,x∉q) (hs:∀i j (_:i<j) (hj:j<R.length),¬fS R[j] (R[i]'ad)<0):R.Pairwise fun a b=>a.headD 0<b.headD 0:=by
 rw[List.pairwise_iff_getElem]
 intro i j hi hj DO
 have h1:=hs i j DO hj
 have a1:=h0 _ (List.getElem_mem hi)
 have a2:=h0 _ (List.getElem_mem hj)
 have hm:∀{z:List Nat},z≠[]->z.headD 0∈z:=fun {z} hz=>by cases z with|nil=>exact absurd rfl hz|cons a b=>simp
 rcases Nat.lt_trichotomy (R[i].headD 0) (R[j].headD 0)with h|h|h
 ·exact h
 ·exact absurd (h▸hm a2) (List.pairwise_iff_getElem.1 ha i j hi hj DO _ (hm a1))
 ·exact absurd (Dp a2 a1 h) h1
def wM (p:List Nat):List Int:=p.map fun n:Nat=>(n:Int)
theorem G3 (p:List Nat):(wM p).map aM=p.map eN:=by simp[wM,Function.comp_def,aM,eN]
theorem Ja {g:Rows} {rows:List (List AV)} {R:List (List Nat)} {is:List Id} (h:cW qN g rows R is):cW mb g rows (R.map wM) is:=by
 induction h with
 |nil=>exact .nil
 |cons h1 _ ih=>
  obtain⟨u,rfl,h2,rfl⟩:=h1
  exact .cons ⟨u,by simp[wM],by rw[G3];exact h2,rfl⟩ ih
theorem AG {R:List (List Nat)} (ha:∀p∈R,p.Pairwise (· < ·)) (hp:R.Pairwise fun p q=>∀x∈p,x∉q):R.flatten.Nodup:=by
 induction R with
 |nil=>exact List.nodup_nil
 |cons p R ih=>
  have h:=List.pairwise_cons.1 hp
  rw[List.flatten_cons,List.nodup_append]
  refine⟨(ha p (by simp)).imp fun h e=>ad,ih (fun q hq=>ha q (by simp[hq])) h.2,fun x hx y hy e=>?_⟩
  subst e
  obtain⟨q,hq,hxq⟩:=List.mem_flatten.1 hy
  exact h.1 q hq x hx hxq
theorem uW {n:Nat} {bs:List PB} {t:Int} {R:List (List Nat)} (h:dZ n bs t R):(R.map List.length).sum<=n:=by
 rw[<-List.length_flatten]
 refine gS n _ (AG h.HV h.apart) fun x hx=>?_
 obtain⟨p,hp,hxp⟩:=List.mem_flatten.1 hx
 exact h.lt p hp x hxp
theorem nA {n:Nat} {bs:List PB} {t:Int} {R:List (List Nat)} (h:dZ n bs t R):R.length<=n:=by
 refine Nat.le_trans ?_ (uW h)
 have h0:=h.some
 clear h
 induction R with
 |nil=>simp
 |cons p R ih=>
  have:=ih fun q hq=>h0 q (by simp[hq])
  have:=List.length_pos_iff.2 (h0 p (by simp))
  simp only[List.map_cons,List.sum_cons,List.length_cons];omega
noncomputable def nP (s:ao) (l:List ai) (t:Int):List (List Int)×Int:=(if ju s l t=0 then(qe l.length (cI s l) t).map wM else[],ju s l t)
theorem ur {s:ao} {l:List ai} {t:Int} (h:ju s l t=0):nW s=true/\oq s l=true/\ig t 1 16=true/\l.length<=64:=by
 unfold ju at h
 split at h
 ·rename_i h1
  split at h
  ·rename_i h2
   split at h
   ·rename_i h3;exact⟨h1.1,h1.2,h2,h3⟩
   ·cases h
  ·cases h
 ·cases h
theorem FN (s:ao) (l:List ai) (t:Int):(((nP s l t).1.map kh).sum+(nP s l t).1.length)<=1099511627776:=by
 unfold nP
 split
 ·rename_i h0
  obtain⟨q1,q2,q3,q4⟩:=ur h0
  have fG:=kW (l:=l) (th.1 q1)
  have hR:=(rJ (n:=l.length) (bs:=cI s l) (t:=t) (fun b hb=>by have:=fG b hb;omega) (ei q3).1).1
  have h1:=uW hR
  have h2:=nA hR
  have h3:((qe l.length (cI s l) t).map wM).map kh=(qe l.length (cI s l) t).map List.length:=by simp[Function.comp_def,kh,wM]
  simp only[h3,List.length_map]
  omega
 ·simp
theorem JG {n k:Nat} (h:k<n):(List.range (k+1)).map eN=(List.range k).map eN++[[.int .i64 (k:Int)]]:=by rw[List.range_succ,List.map_append];rfl
theorem vp (s:ao) (l:List ai) (t:Int) (hn:fR s) (hm:qQ s) (hl:l.length<=1048576) (n0:Nat):
  Call Tryz.prog 24 [.agg (aa s),.agg [.sl (l.map ah)],.int .i64 t] ⟨fun _=>none,n0⟩ (fun r σ'=>∃ids,(∃v0,r=.im [v0,.int .i64 (nP s l t).2]/\iw σ'.get v0 (nP s l t).1 ids)/\eW n0 σ'.next ids):=by
 have Ki:=rn s l hn hm.g hm.t (fun t ht=>(hm.s t ht)) hl
 have Nq:=rF t
 have fP:(l.map ah).length=l.length:=by simp
 refine gj eL rfl fun wg=>?_
 clear wg
 have Mu:∀c:Int,c≠0->ju s l t=c->∀{e:Env} {σ:ar},e 6=.cK->e 7=.int .i64 c->kr [.tmp 6,.tmp 7] (fun r σ'=>∃ids,(∃v0,r=.im [v0,.int .i64 (nP s l t).2]/\iw σ'.get v0 (nP s l t).1 ids)/\eW n0 σ'.next ids) .ret e σ:=fun c h0 hc e σ h6 h7=>by
  have hA:nP s l t=([],c):=by unfold nP;rw[hc,if_neg h0]
  rw[hA]
  exact gI (.inl rfl) (vs:=[.cK,.int .i64 c]) (sd (tw @h6 @h7)) ⟨[],⟨.cK,rfl,.inl ⟨rfl,rfl,rfl⟩⟩,List.nodup_nil,fun i hi=>by cases hi⟩
 rw[aa]at Ki ⊢
 cases b1:nW s&&oq s l
 ·rw[b1]at Ki
  have hc:ju s l t=1:=by rw[ju,if_neg];rw[<-Bool.and_eq_true,b1];simp
  (repeat(first|((repeat(revert hN;revert N;apply Pn.out));refine wk @aa.eq_1 ?_;(repeat(refine Pn.mk ?_;intro N hN)))|((try apply Or.inl);refine⟨_,ak.x (Ki) (sd @aa.eq_1),?_⟩;refine hN _ _ ?_;clear hN N)))
  exact Mu 1 ad hc (sd @Nat.zero_add) (sd @Nat.zero_add)
 have Nh:=b1
 rw[Bool.and_eq_true]at Nh
 rw[b1]at Ki
 cases b2:ig t 1 16
 ·rw[b2]at Nq
  have hc:ju s l t=2:=by rw[ju,if_pos Nh,if_neg];rw[b2];simp
  (repeat(first|((repeat(revert hN;revert N;apply Pn.out));refine wk @aa.eq_1 ?_;(repeat(refine Pn.mk ?_;intro N hN)))|((try apply Or.inl);refine⟨_,ak.x (Ki) (sd @aa.eq_1),?_⟩;refine hN _ _ ?_;clear hN N)|((try apply Or.inl);refine⟨_,ak.x (Nq) (sd @aa.eq_1),?_⟩;refine hN _ _ ?_;clear hN N)))
  exact Mu 2 ad hc (sd @Nat.zero_add) (sd @Nat.zero_add)
 rw[b2]at Nq
 by_cases Cq:(64:Int)<(l.length:Int)
 ·have hc:ju s l t=4:=by rw[ju,if_pos Nh,if_pos b2,if_neg ad]
  (repeat(first|((repeat(revert hN;revert N;apply Pn.out));refine wk (tw @aa.eq_1 (tw @Cq @fP)) ?_;(repeat(refine Pn.mk ?_;intro N hN)))|((try apply Or.inl);refine⟨_,ak.x (Ki) (sd (tw @aa.eq_1 (tw @Cq @fP))),?_⟩;refine hN _ _ ?_;clear hN N)|((try apply Or.inl);refine⟨_,ak.x (Nq) (sd (tw @aa.eq_1 (tw @Cq @fP))),?_⟩;refine hN _ _ ?_;clear hN N)))
  exact Mu 4 ad hc (sd @Nat.zero_add) (sd @Nat.zero_add)
 have hc:ju s l t=0:=by rw[ju,if_pos Nh,if_pos b2,if_pos ad]
 have hS:=th.1 Nh.1
 have hA:=xD.1 Nh.2
 have fG:=kW (l:=l) hS
 have Kz:∀b∈cI s l,0<=b.s:=fun b hb=>by have:=fG b hb;omega
 have O9:=(ei b2).1
 by_cases h0:(l.length:Int)=0
 ·have hd:decide ((l.length:Int)=0)=true:=decide_eq_true h0
  have jg:decide (l.length=0)=true:=decide_eq_true ad
  have P8:nP s l t=([],0):=by
   have hz:=nA (rJ (n:=l.length) (bs:=cI s l) Kz O9).1
   have jw:qe l.length (cI s l) t=[]:=List.length_eq_zero_iff.1 ad
   unfold nP;rw[hc,if_pos rfl,jw];rfl
  rw[P8]
  (repeat(first|((repeat(revert hN;revert N;apply Pn.out));refine wk (tw @aa.eq_1 (tw @Cq (tw @fP (tw @hd @jg)))) ?_;(repeat(refine Pn.mk ?_;intro N hN)))|((try apply Or.inl);refine⟨_,ak.x (Ki) (sd (tw @aa.eq_1 (tw @Cq (tw @fP (tw @hd @jg))))),?_⟩;refine hN _ _ ?_;clear hN N)|((try apply Or.inl);refine⟨_,ak.x (Nq) (sd (tw @aa.eq_1 (tw @Cq (tw @fP (tw @hd @jg))))),?_⟩;refine hN _ _ ?_;clear hN N)))
  exact gI (.inl rfl) (vs:=[.cK,.int .i64 0]) (sd @Nat.zero_add) ⟨[],⟨.cK,rfl,.inl ⟨rfl,rfl,rfl⟩⟩,List.nodup_nil,fun i hi=>by cases hi⟩
 have hd:decide ((l.length:Int)=0)=false:=decide_eq_false h0
 have jg:decide (l.length=0)=false:=decide_eq_false ad
 (repeat(first|((repeat(revert hN;revert N;apply Pn.out));refine wk (tw @aa.eq_1 (tw @Cq (tw @fP (tw @hd @jg)))) ?_;(repeat(refine Pn.mk ?_;intro N hN)))|((try apply Or.inl);refine⟨_,ak.x (Ki) (sd (tw @aa.eq_1 (tw @Cq (tw @fP (tw @hd @jg))))),?_⟩;refine hN _ _ ?_;clear hN N)|((try apply Or.inl);refine⟨_,ak.x (Nq) (sd (tw @aa.eq_1 (tw @Cq (tw @fP (tw @hd @jg))))),?_⟩;refine hN _ _ ?_;clear hN N)))
 refine bp (fun n env st=>∃k:Nat,n=(l.length)-k/\k<=(l.length)/\env 33=.int .i64 (k:Int)/\st.get ⟨24000000,n0⟩=some ⟨true,2,[aa s]⟩/\st.get ⟨24000001,n0⟩=some ⟨true,1,[[.sl (l.map ah)]]⟩/\(n0<st.next/\((k=0/\env 8=.cK)∨∃w:Id,env 8=.own w 0 k/\st.get w=some ⟨true,1,(List.range k).map eN⟩/\w.site=24013003/\n0<w.bR/\w.bR<st.next))) (l.length) ⟨0,ad,ad,sl (tw @fP @aa.eq_1),sl (tw @fP @aa.eq_1),sl (tw @fP @aa.eq_1),by(try dsimp only);exact⟨ad,.inl ⟨rfl,sd @Nat.zero_add⟩⟩⟩ ?_
 rintro n_a env_a st_a ⟨k,rfl,ale,a33,ag0,ag1,aI0⟩ dt
 have a2:=dt 2 (by kernel_rfl);have a3:=dt 3 (by kernel_rfl);have a4:=dt 4 (by kernel_rfl);have a32:=dt 32 (by kernel_rfl)
 simp only[go_sem, ↓reduceIte,Nat.reduceEqDiff,Nat.reduceAdd,Nat.reduceSub,Nat.reduceLeDiff,reduceCtorEq,fP,aa]at a2 a3 a4 a32
 clear dt
 obtain⟨an,aw⟩:=aI0
 have v0:=dW (i:=⟨24000000,n0⟩) (n:=st_a.next) cE
 have v1:=dW (i:=⟨24000001,n0⟩) (n:=st_a.next) cE
 by_cases hk:(k:Int)<(l.length:Int)
 ·have bK:∀{e:Env} {gg:Rows} {nx:Nat},(e 33=.int .i64 (IntKind.i64.wrap ((k:Int)+1)))->(gg ⟨24000000,n0⟩=some ⟨true,2,[aa s]⟩)->(gg ⟨24000001,n0⟩=some ⟨true,1,[[.sl (l.map ah)]]⟩)->(n0<nx/\(((k+1)=0/\e 8=.cK)∨∃w:Id,e 8=.own w 0 (k+1)/\gg w=some ⟨true,1,(List.range (k+1)).map eN⟩/\w.site=24013003/\n0<w.bR/\w.bR<nx))->∃m0,m0<(l.length)-k/\∃k:Nat,m0=(l.length)-k/\k<=(l.length)/\e 33=.int .i64 (k:Int)/\gg ⟨24000000,n0⟩=some ⟨true,2,[aa s]⟩/\gg ⟨24000001,n0⟩=some ⟨true,1,[[.sl (l.map ah)]]⟩/\(n0<nx/\((k=0/\e 8=.cK)∨∃w:Id,e 8=.own w 0 k/\gg w=some ⟨true,1,(List.range k).map eN⟩/\w.site=24013003/\n0<w.bR/\w.bR<nx)):=fun x1 x2 x3 x4=>⟨_,ad,k+1,rfl,ad,(by rw[x1,aA ad]),x2,x3,x4⟩
  have eo:k<l.length:=ad
  have pj:=JG eo
  rcases aw with⟨rfl,a8⟩|⟨w,a8,zM,hws,ua,Pg⟩
  ·(try((repeat(revert hN;revert N;apply Pn.out));refine wk (tw @a33 (tw @ag0 (tw @ag1 (tw @a2 (tw @a3 (tw @a4 (tw @a32 (tw @a8 (tw @v0 (tw @v1 @hk)))))))))) ?_;(repeat(refine Pn.mk ?_;intro N hN))))
   refine bK ?_ ?_ ?_ (by(try dsimp only);exact⟨ad,.inr ⟨⟨24013003,st_a.next+1+1⟩,sl @Nat.zero_add,by rw[pj];simp only[go_sem, ↓reduceIte,Nat.reduceEqDiff,Nat.reduceAdd,Nat.reduceSub,Nat.reduceLeDiff,reduceCtorEq]<;>rfl,rfl,cE,cE⟩⟩)
   all_goals simp only[go_sem, ↓reduceIte,Nat.reduceEqDiff,Nat.reduceAdd,Nat.reduceSub,Nat.reduceLeDiff,reduceCtorEq,a33,ag0,ag1,a2,a3,a4,a32,v0,v1]
  ·have vw:=dW Pg
   have wh:((List.range k).map eN).length=k:=by simp
   have rD:k<=16777215:=ad
   have x0:=fy hws (b:=24000000) (v:=n0) (by decide)
   have x1:=fy hws (b:=24000001) (v:=n0) (by decide)
   (try((repeat(revert hN;revert N;apply Pn.out));refine wk (tw @a33 (tw @ag0 (tw @ag1 (tw @a2 (tw @a3 (tw @a4 (tw @a32 (tw @a8 (tw @zM (tw @vw (tw @wh (tw @rD (tw @x0 (tw @x1 (tw @v0 (tw @v1 @hk)))))))))))))))) ?_;(repeat(refine Pn.mk ?_;intro N hN))))
   refine bK ?_ ?_ ?_ (by(try dsimp only);exact⟨ad,.inr ⟨⟨24013003,st_a.next+1+1⟩,sl @Nat.zero_add,by rw[pj];simp only[go_sem, ↓reduceIte,Nat.reduceEqDiff,Nat.reduceAdd,Nat.reduceSub,Nat.reduceLeDiff,reduceCtorEq]<;>rfl,rfl,cE,cE⟩⟩)
   all_goals simp only[go_sem, ↓reduceIte,Nat.reduceEqDiff,Nat.reduceAdd,Nat.reduceSub,Nat.reduceLeDiff,reduceCtorEq,a33,ag0,ag1,a2,a3,a4,a32,v0,v1,x0,x1]
 ·have jz:k=l.length:=ad
  subst jz
  rcases aw with⟨h00,_⟩|⟨w,a8,zM,hws,ua,Pg⟩
  ·omega
  have vw:=dW Pg
  have hb:=fun σ h1 h2=>vI s l t hS hA ad l.length (List.range l.length) w σ (by simp) ⟨[],dZ.all l.length (cI s l) t ad⟩ h1 h2
  rw[List.length_range]at hb
  rw[aa]at ag0 hb
  (try((repeat(revert hN;revert N;apply Pn.out));refine wk (tw @a33 (tw @ag0 (tw @ag1 (tw @a2 (tw @a3 (tw @a4 (tw @a32 (tw @a8 (tw @v0 (tw @v1 @hk)))))))))) ?_;(repeat(refine Pn.mk ?_;intro N hN))))
  refine .inr (bd _ _ _ _ _ (fun r σ1 hq=>?_) (hb _ (sd (tw @vw @zM)) cE))
  obtain⟨R,o,rows,is,b1,rfl,go,hr,⟨ov,ov'⟩,hi,nd,n1,f1⟩:=hq
  obtain⟨g1,x1⟩:=σ1
  (try dsimp only at go hr ov ov' hi n1 f1)
  have Ra:dZ l.length (cI s l) t R:=by simpa using b1.1 [] (dZ.all l.length (cI s l) t ad)
  refine hN _ _ ?_
  clear hN N
  (try((repeat(revert hN;revert N;apply Pn.out));refine wk (tw @a33 (tw @ag0 (tw @ag1 (tw @a2 (tw @a3 (tw @a4 @a32)))))) ?_;(repeat(refine Pn.mk ?_;intro N hN))))
  refine .inr (bd _ _ _ _ _ (fun r σ2 hq=>?_) (Ht R b1.2.2.2.1 (by have:=b1.2.2.2.2;rw[List.length_range]at this;omega) (fun p hp=>by have:=Ra.lt p hp;exact Nat.le_trans (gS l.length p ((Ra.HV p hp).imp fun h e=>ad) this) hl) _ o rows is (sd @go) (by(try dsimp only);exact hr) nd))
  obtain⟨R2,u3,Mg,L2,IT,go2,tK,L7,RS,pe⟩:=hq
  obtain⟨g2,x2⟩:=σ2
  (try dsimp only at go2 tK RS pe)
  refine hN _ _ ?_
  clear hN N
  (try((repeat(revert hN;revert N;apply Pn.out));refine wk (tw @a33 (tw @ag0 (tw @ag1 (tw @a2 (tw @a3 (tw @a4 @a32)))))) ?_;(repeat(refine Pn.mk ?_;intro N hN))))
  have Q9:=Ra.perm L2.symm
  have hRL:R2=qe l.length (cI s l) t:=Ir Kz O9 Q9 (fun p hp=>b1.2.1 p (L2.mem_iff.1 hp)) (wV Q9.some Q9.apart L7)
  have hAn:nP s l t=(R2.map wM,0):=by unfold nP;rw[hc,if_pos rfl,hRL]
  have hRl:R2.length=R.length:=L2.length_eq
  rw[hAn]
  refine gI (.inl rfl) (vs:=[.own o 0 R.length,.int .i64 0]) (sd @Nat.zero_add) ⟨o::Mg,⟨_,rfl,.inr ⟨⟨o,u3,Mg,by simp[hRl],sd @go2,Ja tK,rfl⟩,by have:=b1.2.2.2.1;simp;omega⟩⟩,?_,fun i pg=>?_⟩
  ·exact List.nodup_cons.2 ⟨fun h=>(List.nodup_cons.1 nd).1 (IT.mem_iff.1 h),IT.nodup_iff.2 (List.nodup_cons.1 nd).2⟩
  ·rcases List.mem_cons.1 pg with rfl|pg
   ·(try dsimp only);omega
   ·have h1:=hi i (IT.mem_iff.1 pg)
    rcases h1.1 with rfl|h2
    ·(try dsimp only at h1);(try dsimp only);omega
    ·(try dsimp only at h1 h2);(try dsimp only);omega
end Go.Proofs.YtphenfakmdknlaaGreat.V
