/- Growth inside an assembly, by the reference: the rounds. -/
import Derived.Test.YtgoljkjaameagaaGreatPgD
import Derived.Test.YtgoljkjaameagaaGreatPgB
import Derived.Shelf.SlSortCmp.WholeK
import Derived.Shelf.SlSortCmp.NoneTotal
import Derived.Ground.SlsfProg
import Derived.Test.YtgoljkjaameagaaGreatProg
import Derived.Test.YtgoljkjaameagaaGreatPgC
import Derived.Maps.RangeRun
import Derived.Test.YtgoljkjaameagaaGreatChecked
import Derived.RangeFuncNested
import Derived.RangeFuncBound
import Derived.RangeFuncCalls
import Derived.RangeFuncLeaves
import Derived.Shelf.Abstract
import Derived.Shelf.RegionOpen
import Derived.WalkKit
import Derived.OwnWalkIn
import Derived.TacticsInMore
import Derived.LoopNIn
import Derived.LoopIn
import Derived.BigQuiet
import Derived.RangeFuncBox
import Derived.RangeFuncWrites
import Derived.Maps.AppendAt
set_option linter.unusedVariables false
set_option linter.unusedSimpArgs false
set_option maxRecDepth 100000
set_option maxHeartbeats 16000000
namespace Go.Proofs.YtgoljkjaameagaaGreat.V
open Go.RowKit
attribute [local irreducible] dI wpOps gy Call
attribute [local go_sem] aM fG eQ fZ fY cQ upd cC K.av cP AV.cells AV.cell rowOf rowsOf part ld rowAt bt cu dE ee ik bJ dh ew fX eX dp ej dd dc dQ dR bQ bf cW bP cY cX eh ek ei cV b4 de ef bK aP da cG ij bw cK bU aY dn bc dF AV.undef bF bI dS ec dM dK cH ev eA cF ep eo cZ db List.getD_cons_zero List.getD_cons_succ List.getD_nil List.all_cons List.all_nil Bool.and_true Bool.true_and Bool.and_self Bool.not_true Bool.not_false Option.map_some Option.map_none Option.bind_some Option.bind_none List.length_cons List.length_nil List.take_succ_cons List.take_zero List.take_nil List.drop_succ_cons List.drop_zero List.drop_nil List.head?_cons List.map_cons List.map_nil List.getElem?_cons_zero List.getElem?_cons_succ List.cons_append List.nil_append List.append_nil List.length_map List.set_cons_zero List.set_cons_succ Nat.reduceMul eq_self Int.toNat_natCast Int.natCast_nonneg and_self true_and and_true decide_true decide_false Bool.false_eq_true Nat.zero_add Nat.add_zero List.contains_cons List.contains_nil Bool.or_false Bool.false_or beq_self_eq_true Nat.reduceBEq ne_eq not_true_eq_false not_false_eq_true Id.mk.injEq false_and and_false Nat.reduceLT Int.reduceLE Int.reduceLT Int.reduceToNat Int.reduceNeg Int.reduceAdd Nat.le_refl List.length_append beq_true beq_false Bool.not_eq_eq_eq_not or_false false_or dJ ai aj aD bp bE cq aT bd aX bj cR bG
theorem FR {g:Rows} {X o:Id} {L:List ad} (hX:g X=some ⟨true,1,[[.own o 0 L.length]]⟩) (ho:g o=some ⟨true,3,L.map aa⟩):fz (dJ g) 6 (.ptr X 0 0)=some (.di [.sl (L.map aa)]):=by
 have h1:fz (dJ g) 5 (.own o 0 L.length)=some (.sl (L.map aa)):=fM (e:=aa) (sz:=3) (by simp[dJ,ho]) rfl fun x=>by simp[aa,ai,aj,aD]
 exact wu (n:=5) (sz:=1) (rows:=[[.own o 0 L.length]]) (cs:=[.own o 0 L.length]) (by simp[dJ,hX]) rfl (by simp[ai,aj,h1])
def Le (X:Id) (st:iU) (e7:AV) (g:Rows) (n:Nat):Prop:=∃o u:Id,g X=some ⟨true,1,[[.own o 0 st.2.length]]⟩/\g o=some ⟨true,3,st.2.map aa⟩/\e7=.own u 0 st.1.length/\g u=some ⟨true,3,st.1.map aa⟩/\o.ck<u.ck/\X.ck<u.ck/\u.ck<n/\o≠X
theorem Le.frame {X:Id} {st:iU} {e7 QU:AV} {g g':Rows} {n n':Nat} (h:Le X st e7 g n) (he:QU=e7) (hn:n<=n') (hf:∀x:Id,x.ck<n->g' x=g x):Le X st QU g' n':=by
 obtain⟨o,u,h1,h2,h3,h4,h5,h6,h7,h8⟩:=h
 exact⟨o,u,(hf X (by omega)).trans h1,(hf o (by omega)).trans h2,he.trans h3,(hf u h7).trans h4,h5,h6,by omega,h8⟩
theorem ug {s:az} {st:iU} {x:ad} (h:kc s st.2 x.aO x.aV=true):jA s st x=(st.1++[x],iD st.2 x):=if_pos h
theorem wO {s:az} {st:iU} {x:ad} (h:kc s st.2 x.aO x.aV=false):jA s st x=st:=if_neg (by rw[h];simp)
theorem Cm (s:az) (hP:F8 s) (l:List ad) (hA:jj s.aH l) (hW:iT s.aZ.ah l=true):aq Tryz.prog 160 [.di (au s),.di [.sl (l.map aa)]] (.gD [.sl ((jc s l).1.map aa),.agg [.sl ((jc s l).2.map aa)]]):=by
 refine aq.body dX rfl fun kp n0=>?_
 clear kp
 have I4:=hA.1.rP
 have LF:=tn hP hA hW
 have RH:=LF.rP
 (try dsimp only at RH)
 (try((repeat(revert hN;revert N;apply Pn.out));refine wk @au.eq_1 ?_;(repeat(refine Pn.mk ?_;intro N hN))))
 refine .inr (aC _ _ _ _ _ (fun r σ1 hq=>?_) (NJ.val (fun n=>(Jv s.aZ.ah (by omega) n).cut mixed (.ptr _ [.int .i64 s.aB] .nil)) (by simp only[ai,aj,aX,Option.map_some];rfl)))
 obtain⟨⟨o,rfl,q1,q2,q3⟩,hK⟩:=hq
 obtain⟨g1,x1⟩:=σ1
 (try dsimp only at q1 q2 q3 hK)
 have vh:=hK.1
 have k5:=hK.2 ⟨160000001,n0⟩ (by(try dsimp only);omega)
 simp only[go_sem, ↓reduceIte,Nat.reduceEqDiff,Nat.reduceAdd,Nat.reduceSub,Nat.reduceLeDiff,reduceCtorEq]at k5
 (try dsimp only at vh)
 refine hN _ _ ?_
 clear hN N
 (try((repeat(revert hN;revert N;apply Pn.out));refine wk (tw @k5 @au.eq_1) ?_;(repeat(refine Pn.mk ?_;intro N hN))))
 refine aU (fun n env st=>∃(S:iU) (m:Nat) (go:Bool),n=(if go then m else 0)/\env 8=.bool go/\(go=true->wN s l m S=jc s l/\oR l S.2<m)/\(go=false->S=jc s l)/\ow s l S/\Le ⟨160001004,x1⟩ S (env 7) st.get st.next/\st.get ⟨160000001,n0⟩=some ⟨true,1,[[.bl]]⟩) (l.length+1) ⟨([],s.aZ.ah),l.length+1,true,rfl,sd @Nat.zero_add,fun _=>⟨rfl,by have:=Fp l s.aZ.ah;(try dsimp only);omega⟩,fun h=>(by cases h),LF,?_,?_⟩ ?_
 ·have vo:=dr (i:=o) (n:=x1) (by omega)
  have vu:=dr (i:=⟨160001004,x1⟩) (n:=x1+1) (by(try dsimp only);omega)
  exact⟨o,⟨160002000,x1+1⟩,sd @Nat.zero_add,sd (tw @vo @q1),sl @Nat.zero_add,sl @Nat.zero_add,by(try dsimp only);omega,by(try dsimp only);omega,by(try dsimp only);omega,fun e=>by rw[e]at q3;(try dsimp only at q3);omega⟩
 ·simp only[go_sem, ↓reduceIte,Nat.reduceEqDiff,Nat.reduceAdd,Nat.reduceSub,Nat.reduceLeDiff,reduceCtorEq,k5]
 rintro n1 e1 st1 ⟨S,m,go,rfl,e8,rS,hend,hI,hL,hr5⟩ hk
 have c0:=hk 0 (by kernel_rfl)
 have c1:=hk 1 (by kernel_rfl)
 have c5:=hk 5 (by kernel_rfl)
 have c6:=hk 6 (by kernel_rfl)
 simp only[go_sem, ↓reduceIte,Nat.reduceEqDiff,Nat.reduceAdd,Nat.reduceSub,Nat.reduceLeDiff,reduceCtorEq,au]at c0 c1 c5 c6
 clear hk q1 q2 q3 hK k5
 cases go
 ·have hS:=hend rfl
  subst hS
  clear hend rS
  obtain⟨o,u,h1,h2,h3,h4,h5,h6,h7,h8⟩:=hL
  (try((repeat(revert hN;revert N;apply Pn.out));refine wk (tw @e8 (tw @c5 (tw @c6 (tw @h1 (tw @h3 @hr5))))) ?_;(repeat(refine Pn.mk ?_;intro N hN))))
  have a5:o=⟨160000001,n0⟩->False:=fun e=>by
   rw[e,hr5]at h2
   simp at h2
  have b5:u=⟨160000001,n0⟩->False:=fun e=>by
   rw[e,hr5]at h4
   simp at h4
  have oa:=eq_false a5
  have ob:=eq_false b5
  exact qn (.inl rfl) (vs:=[.own u 0 (jc s l).1.length,.agg [.own o 0 (jc s l).2.length]]) (sd (tw @c5 @h3)) (by
   simp only[fa,eS,bB,cw,uY]
   rw[fj (e:=aa) (l:=(jc s l).1) (sz:=3) (sd (tw @ob @h4)) rfl (fun x=>M6 _ 3 x),fj (e:=aa) (l:=(jc s l).2) (sz:=3) (sd (tw @oa @h2)) rfl (fun x=>M6 _ 2 x)];rfl)
 ·obtain⟨hF,hm⟩:=rS rfl
  clear hend rS
  have DW:fN s l S 0=S:=by simp[fN]
  (try((repeat(revert hN;revert N;apply Pn.out));refine wk (tw @e8 (tw @c0 @c1)) ?_;(repeat(refine Pn.mk ?_;intro N hN))))
  refine aU (fun n env st=>∃i:Nat,n=(l.length)-i/\i<=(l.length)/\env 9=.int .i64 (i:Int)/\(env 8=.bool (decide ((fN s l S i).1.length≠S.1.length))/\Le ⟨160001004,x1⟩ (fN s l S i) (env 7) st.get st.next/\st.get ⟨160000001,n0⟩=some ⟨true,1,[[.bl]]⟩)) (l.length) ⟨0,by omega,by omega,sl (tw @c0 (tw @c1 (tw @c5 @c6))),by(try dsimp only);exact⟨by rw[DW];simp only[go_sem, ↓reduceIte,Nat.reduceEqDiff,Nat.reduceAdd,Nat.reduceSub,Nat.reduceLeDiff,reduceCtorEq]<;>simp,by rw[DW];exact hL.frame (sd @Nat.zero_add) (by(try dsimp only);omega) fun x _=>rfl,hr5⟩⟩ ?_
  rintro n_b env_b st_b ⟨i,rfl,ble,b9,bI0⟩ gh
  have b0:=gh 0 (by kernel_rfl);have b1:=gh 1 (by kernel_rfl);have b5:=gh 5 (by kernel_rfl);have b6:=gh 6 (by kernel_rfl)
  simp only[go_sem, ↓reduceIte,Nat.reduceEqDiff,Nat.reduceAdd,Nat.reduceSub,Nat.reduceLeDiff,reduceCtorEq,c0,c1,c5,c6]at b0 b1 b5 b6
  clear gh
  obtain⟨b8,bL,SG⟩:=bI0
  obtain⟨Bc,I7,C6⟩:=xE hI hA i (by omega)
  by_cases hi:(i:Int)<(l.length:Int)
  ·have gn:∀{e:Env} {gg:Rows} {nx:Nat},(e 9=.int .i64 (IntKind.i64.wrap ((i:Int)+1)))->(e 8=.bool (decide ((fN s l S (i+1)).1.length≠S.1.length))/\Le ⟨160001004,x1⟩ (fN s l S (i+1)) (e 7) gg nx/\gg ⟨160000001,n0⟩=some ⟨true,1,[[.bl]]⟩)->∃m0,m0<(l.length)-i/\∃i:Nat,m0=(l.length)-i/\i<=(l.length)/\e 9=.int .i64 (i:Int)/\(e 8=.bool (decide ((fN s l S i).1.length≠S.1.length))/\Le ⟨160001004,x1⟩ (fN s l S i) (e 7) gg nx/\gg ⟨160000001,n0⟩=some ⟨true,1,[[.bl]]⟩):=fun x1 x2=>⟨_,by omega,i+1,rfl,by omega,(by rw[x1,aA (by omega)]),x2⟩
   have fw:i<l.length:=by omega
   have yS:=qS s l S fw
   have hx:=gK fw
   have ht:=hA.2 _ hx
   have ke:=fx fw
   have Q4:=Bc.asm hA
   have Ra:=Jz s hP _ Q4 (aJ l i).aO (aJ l i).aV ht
   have lL:(l.map aa).length=l.length:=by simp
   have Uu:=Bc.rP
   have Uv:=Bc.len
   generalize fN s l S i=T at Bc Q4 Ra yS Uu Uv C6 b8 bL
   obtain⟨o,u,h1,h2,h3,h4,h5,h6,h7,h8⟩:=bL
   have vo:=dr (i:=o) (n:=st_b.next) (by omega)
   have vu:=dr (i:=u) (n:=st_b.next) (by omega)
   have vX:=dr (i:=⟨160001004,x1⟩) (n:=st_b.next) (by(try dsimp only at h6);(try dsimp only);omega)
   have v5:=dr (i:=⟨160000001,n0⟩) (n:=st_b.next) (by(try dsimp only at h6);(try dsimp only);omega)
   (try((repeat(revert hN;revert N;apply Pn.out));refine wk (tw @b9 (tw @b0 (tw @b1 (tw @b5 (tw @b6 (tw @hi (tw @ke (tw @lL @aa.eq_1)))))))) ?_;(repeat(refine Pn.mk ?_;intro N hN))))
   refine .inl ⟨_,aq.x Ra (by
    have hp:=FR (g:=bt (bt st_b.get ⟨160009017,st_b.next+1⟩ ⟨true,3,[[.int .i64 0,.int .i64 0,.int .i64 0]]⟩) ⟨160009017,st_b.next+1⟩ ⟨true,3,[[.int .i64 (aJ l i).aO.eZ,.int .i64 (aJ l i).aO.eU,.int .i64 (aJ l i).aV]]⟩) (X:=⟨160001004,x1⟩) (o:=o) (L:=T.2) (sd (tw @vX @h1)) (sd (tw @vo @h2))
    simp only[ai,aj,aX,hp,bd,aD,Option.map_some]
    rfl),?_⟩
   refine hN _ _ ?_
   clear hN N
   cases hf:kc s T.2 (aJ l i).aO (aJ l i).aV
   ·rw[wO hf]at yS
    (try((repeat(revert hN;revert N;apply Pn.out));refine wk (tw @b9 (tw @b0 (tw @b1 (tw @b5 (tw @b6 (tw @hf @ke)))))) ?_;(repeat(refine Pn.mk ?_;intro N hN))))
    exact gn (sd (tw @b9 (tw @b0 (tw @b1 (tw @b5 @b6))))) (by(try dsimp only);exact⟨by rw[yS];simp only[go_sem, ↓reduceIte,Nat.reduceEqDiff,Nat.reduceAdd,Nat.reduceSub,Nat.reduceLeDiff,reduceCtorEq,b8],by rw[yS];exact(show Le ⟨160001004,x1⟩ T (env_b 7) st_b.get st_b.next from⟨o,u,h1,h2,h3,h4,h5,h6,h7,h8⟩).frame (sd @Nat.zero_add) (by(try dsimp only);omega) (fun y hy=>by
     have h9:=dr hy
     simp only[go_sem, ↓reduceIte,Nat.reduceEqDiff,Nat.reduceAdd,Nat.reduceSub,Nat.reduceLeDiff,reduceCtorEq,h9]),sd (tw @v5 @SG)⟩)
   ·rw[ug hf]at yS
    (try((repeat(revert hN;revert N;apply Pn.out));refine wk (tw @b9 (tw @b0 (tw @b1 (tw @b5 (tw @b6 (tw @hf @ke)))))) ?_;(repeat(refine Pn.mk ?_;intro N hN))))
    refine .inr (aC _ _ _ _ _ (fun r σ2 hq=>?_) (NJ.val (fun n=>Jw T.2 (by omega) (aJ l i).aO (aJ l i).aV n) (by
     have hp:=FR (g:=bt (bt st_b.get ⟨160009017,st_b.next+1⟩ ⟨true,3,[[.int .i64 0,.int .i64 0,.int .i64 0]]⟩) ⟨160009017,st_b.next+1⟩ ⟨true,3,[[.int .i64 (aJ l i).aO.eZ,.int .i64 (aJ l i).aO.eU,.int .i64 (aJ l i).aV]]⟩) (X:=⟨160001004,x1⟩) (o:=o) (L:=T.2) (sd (tw @vX @h1)) (sd (tw @vo @h2))
     simp only[ai,aj,hp,bd,aD,Option.map_some]
     rfl)))
    obtain⟨⟨o2,rfl,p1,p2,p3⟩,hK⟩:=hq
    obtain⟨g2,x2⟩:=σ2
    (try dsimp only at p1 p2 p3 hK)
    have HS:=hK.1
    (try dsimp only at HS)
    have hXb:x1<st_b.next:=by(try dsimp only at h6);omega
    have kX:=hK.2 ⟨160001004,x1⟩ (by(try dsimp only);omega)
    have k5:=hK.2 ⟨160000001,n0⟩ (by(try dsimp only);omega)
    have ku:=hK.2 u (by(try dsimp only);omega)
    have kt:=hK.2 ⟨160009017,st_b.next+1⟩ (by(try dsimp only);omega)
    simp only[go_sem, ↓reduceIte,Nat.reduceEqDiff,Nat.reduceAdd,Nat.reduceSub,Nat.reduceLeDiff,reduceCtorEq,vX,v5,vu,h1,h4,SG]at kX k5 ku kt
    have mi:=pf (aJ l i) T.2
    have hpe:iD T.2 ⟨(aJ l i).aO,(aJ l i).aV⟩=iD T.2 (aJ l i):=rfl
    rw[hpe]at p1 ⊢
    refine hN _ _ ?_
    clear hN N
    have Vp:(T.1.map aa).length=T.1.length:=by simp
    have Tu:T.1.length<=16777215:=by omega
    have uX:=cz (a:=⟨160001004,x1⟩) (b:=u) (by(try dsimp only at h6);(try dsimp only);omega)
    have u5:=cz (a:=⟨160000001,n0⟩) (b:=u) (by(try dsimp only at h6);(try dsimp only);omega)
    have VF:=dr (i:=u) (n:=x2) (by omega)
    have vX2:=dr (i:=⟨160001004,x1⟩) (n:=x2) (by(try dsimp only);omega)
    have v52:=dr (i:=⟨160000001,n0⟩) (n:=x2) (by(try dsimp only);omega)
    have TG:=dr (i:=⟨160009017,st_b.next+1⟩) (n:=x2) (by(try dsimp only);omega)
    have ut:=cz (a:=u) (b:=⟨160009017,st_b.next+1⟩) (by(try dsimp only);omega)
    (try((repeat(revert hN;revert N;apply Pn.out));refine wk (tw @b9 (tw @b0 (tw @b1 (tw @b5 (tw @b6 (tw @kX (tw @ku (tw @kt (tw @h3 (tw @uX (tw @ut (tw @VF (tw @vX2 (tw @TG (tw @Vp @Tu))))))))))))))) ?_;(repeat(refine Pn.mk ?_;intro N hN))))
    have hd:decide ((T.1++[aJ l i]).length≠S.1.length)=true:=decide_eq_true (by rw[iP];omega)
    have x7:=iP T.1 (aJ l i)
    have rU:=r7 T.1 (aJ l i)
    have Sn:=dr (i:=o2) (n:=x2) (by omega)
    have uo2:=cz (a:=u) (b:=o2) (by omega)
    have X2:=cz (a:=⟨160001004,x1⟩) (b:=o2) (by(try dsimp only);omega)
    exact gn (sd (tw @b9 (tw @b0 (tw @b1 (tw @b5 @b6))))) (by(try dsimp only);exact⟨by rw[yS,hd]<;>simp only[go_sem, ↓reduceIte,Nat.reduceEqDiff,Nat.reduceAdd,Nat.reduceSub,Nat.reduceLeDiff,reduceCtorEq],by
     rw[yS]
     exact⟨o2,⟨160012003,x2+1⟩,sl (tw @vX2 (tw @uX @mi)),sd (tw @Sn (tw @uo2 (tw @X2 @p1))),by rw[x7];simp only[go_sem, ↓reduceIte,Nat.reduceEqDiff,Nat.reduceAdd,Nat.reduceSub,Nat.reduceLeDiff,reduceCtorEq]<;>rfl,by rw[rU];simp only[go_sem, ↓reduceIte,Nat.reduceEqDiff,Nat.reduceAdd,Nat.reduceSub,Nat.reduceLeDiff,reduceCtorEq]<;>rfl,by(try dsimp only);omega,by(try dsimp only);omega,by(try dsimp only);omega,fun e=>by rw[e]at p2;(try dsimp only at p2);omega⟩,sd (tw @v52 (tw @u5 @k5))⟩)
  ·have lK:i=l.length:=by omega
   subst lK
   rw[pJ]at Bc bL b8 I7
   have qO:=yX hI hA hm
   (try((repeat(revert hN;revert N;apply Pn.out));refine wk (tw @b9 (tw @b0 (tw @b1 (tw @b5 (tw @b6 @hi))))) ?_;(repeat(refine Pn.mk ?_;intro N hN))))
   have SQ:Le ⟨160001004,x1⟩ (gG s l S) (env_b 7) st_b.get st_b.next:=bL
   by_cases he:(gG s l S).1.length=S.1.length
   ·refine⟨0,by show 0<m;omega,gG s l S,0,false,rfl,?_,fun h=>(by cases h),fun _=>(qO.1 he).symm.trans hF,Bc,SQ.frame (sd @Nat.zero_add) (by(try dsimp only);omega) fun x _=>rfl,SG⟩
    simp only[go_sem, ↓reduceIte,Nat.reduceEqDiff,Nat.reduceAdd,Nat.reduceSub,Nat.reduceLeDiff,reduceCtorEq,b8,he]<;>simp
   ·obtain⟨m',rfl,LC,HQ⟩:=qO.2 he
    refine⟨m',Nat.lt_succ_self _,gG s l S,m',true,rfl,?_,fun _=>⟨LC.symm.trans hF,HQ⟩,fun h=>(by cases h),Bc,SQ.frame (sd @Nat.zero_add) (by(try dsimp only);omega) fun x _=>rfl,SG⟩
    have hd:=decide_eq_true he
    simp only[go_sem, ↓reduceIte,Nat.reduceEqDiff,Nat.reduceAdd,Nat.reduceSub,Nat.reduceLeDiff,reduceCtorEq,b8]
    rw[hd]
def TB (ps:List aI) (i:Nat):aI:=ps.getD i ⟨0,0⟩
theorem J1 {ps:List aI} {i:Nat} (h:i<ps.length):TB ps i=ps[i]:=by simp[TB,List.getD_eq_getElem?_getD,h]
def QJ (ps:List aI):Prop:=ps.Pairwise fun a b=>jR a b=true
theorem QJ.at_ {ps:List aI} (h:QJ ps) {i j:Nat} (DR:i<j) (hj:j<ps.length):jR (TB ps i) (TB ps j)=true:=by
 rw[J1 hj,J1 (by omega)]
 exact List.pairwise_iff_getElem.1 h i j (by omega) hj DR
end Go.Proofs.YtgoljkjaameagaaGreat.V

namespace Go.Proofs.YtgoljkjaameagaaGreat.V
open Go.RowKit Go.Shelf Go.Lib Go.Sort
instance:Inhabited aI:=⟨⟨0,0⟩⟩
variable {P:Program} {w:World} {D:Nat->Prop} {ι:Names}
theorem J2 {vs:Array Value} (h:fm P w D ι [] vs):vs= #[]:=Array.eq_empty_of_size_eq_zero h.1
theorem zm {a:AV} {r:List AV} {vs:Array Value} (h:fm P w D ι (a::r) vs):∃u us,vs=(u::us).toArray/\cI P w D ι a u/\fm P w D ι r us.toArray:=by
 obtain⟨h1,h2⟩:=h
 obtain⟨l⟩:=vs
 cases l with
 |nil=>simp at h1
 |cons u us=>
  obtain⟨u',hu,hr⟩:=h2 0 a rfl
  simp at hu;subst hu
  exact⟨u,us,rfl,hr,by simpa using h1,fun j b hj=>by
   obtain⟨v,hv,lN⟩:=h2 (j+1) b (by simpa using hj)
   exact⟨v,by simpa using hv,lN⟩⟩
end Go.Proofs.YtgoljkjaameagaaGreat.V

namespace Go.Proofs
open Go.Shelf
def Tryz.ED:Go.Shelf.Ren:=⟨fun|6=>185|15=>209|14=>250|28=>271|29=>272|20=>289|21=>290|22=>291|23=>292|24=>293|25=>294|26=>295|27=>296|46=>324|47=>307|48=>308|49=>325|50=>326|57=>336|n=>n,fun|22=>40|24=>171|25=>244|3=>3|39=>273|0=>0|53=>333|55=>335|4=>4|46=>327|45=>326|50=>223|5=>5|9=>9|66=>360|70=>364|76=>382|77=>383|n=>n,fun|n=>n⟩
theorem Tryz.Kg:Go.Proofs.SlLaysF0.n6 Tryz.prog Tryz.ED:={
 mixed:=by kernel_rfl
 f6:=⟨Tryz.f185.name,by decide,Tryz.func185.trans (congrArg some (by kernel_rfl))⟩
 f14:=⟨Tryz.f250.name,by decide,Tryz.func250.trans (congrArg some (by kernel_rfl))⟩
 f15:=Tryz.func209.trans (congrArg some (by kernel_rfl))
 f20:=⟨Tryz.f289.name,by decide,Tryz.func289.trans (congrArg some (by kernel_rfl))⟩
 f21:=⟨Tryz.f290.name,by decide,Tryz.func290.trans (congrArg some (by kernel_rfl))⟩
 f22:=⟨Tryz.f291.name,by decide,Tryz.func291.trans (congrArg some (by kernel_rfl))⟩
 f23:=⟨Tryz.f292.name,by decide,Tryz.func292.trans (congrArg some (by kernel_rfl))⟩
 f24:=⟨Tryz.f293.name,by decide,Tryz.func293.trans (congrArg some (by kernel_rfl))⟩
 f25:=⟨Tryz.f294.name,by decide,Tryz.func294.trans (congrArg some (by kernel_rfl))⟩
 f26:=⟨Tryz.f295.name,by decide,Tryz.func295.trans (congrArg some (by kernel_rfl))⟩
 f27:=⟨Tryz.f296.name,by decide,Tryz.func296.trans (congrArg some (by kernel_rfl))⟩
 f28:=Tryz.func271.trans (congrArg some (by kernel_rfl))
 f29:=Tryz.func272.trans (congrArg some (by kernel_rfl))
 f46:=⟨Tryz.f324.name,by decide,Tryz.func324.trans (congrArg some (by kernel_rfl))⟩
 f47:=Tryz.func307.trans (congrArg some (by kernel_rfl))
 f48:=Tryz.func308.trans (congrArg some (by kernel_rfl))
 f49:=⟨Tryz.f325.name,by decide,Tryz.func325.trans (congrArg some (by kernel_rfl))⟩
 f50:=⟨Tryz.f326.name,by decide,Tryz.func326.trans (congrArg some (by kernel_rfl))⟩
 f57:=⟨Tryz.f336.name,by decide,Tryz.func336.trans (congrArg some (by kernel_rfl))⟩
 t0:=Tryz.underlying0
 a0:=Tryz.isAgg0
 z0:=Tryz.sizeOf0
 v0:=Tryz.zeroValue0
 t3:=Tryz.underlying3
 a3:=Tryz.isAgg3
 z3:=Tryz.sizeOf3
 v3:=Tryz.zeroValue3
 t4:=Tryz.underlying4
 a4:=Tryz.isAgg4
 z4:=Tryz.sizeOf4
 v4:=Tryz.zeroValue4
 t5:=Tryz.underlying5
 a5:=Tryz.isAgg5
 z5:=Tryz.sizeOf5
 v5:=Tryz.zeroValue5
 t9:=Tryz.underlying9
 a9:=Tryz.isAgg9
 z9:=Tryz.sizeOf9
 v9:=Tryz.zeroValue9
 t22:=Tryz.underlying40
 a22:=Tryz.isAgg40
 z22:=Tryz.sizeOf40
 v22:=Tryz.zeroValue40
 t25:=Tryz.underlying244
 a25:=Tryz.isAgg244
 z25:=Tryz.sizeOf244
 v25:=Tryz.zeroValue244
 t39:=Tryz.underlying273
 a39:=Tryz.isAgg273
 z39:=Tryz.sizeOf273
 v39:=Tryz.zeroValue273
 t45:=Tryz.underlying326
 a45:=Tryz.isAgg326
 z45:=Tryz.sizeOf326
 v45:=Tryz.zeroValue326
 t46:=Tryz.underlying327
 a46:=Tryz.isAgg327
 z46:=Tryz.sizeOf327
 v46:=Tryz.zeroValue327
 t50:=Tryz.underlying223
 a50:=Tryz.isAgg223
 z50:=Tryz.sizeOf223
 v50:=Tryz.zeroValue223
 t53:=Tryz.underlying333
 a53:=Tryz.isAgg333
 z53:=Tryz.sizeOf333
 v53:=Tryz.zeroValue333
 t55:=Tryz.underlying335
 a55:=Tryz.isAgg335
 z55:=Tryz.sizeOf335
 v55:=Tryz.zeroValue335
 t66:=Tryz.underlying360
 a66:=Tryz.isAgg360
 z66:=Tryz.sizeOf360
 v66:=Tryz.zeroValue360
 t70:=Tryz.underlying364
 a70:=Tryz.isAgg364
 z70:=Tryz.sizeOf364
 v70:=Tryz.zeroValue364
 t76:=Tryz.underlying382
 a76:=Tryz.isAgg382
 z76:=Tryz.sizeOf382
 v76:=Tryz.zeroValue382
 t77:=Tryz.underlying383
 a77:=Tryz.isAgg383
 z77:=Tryz.sizeOf383
 v77:=Tryz.zeroValue383}
end Go.Proofs

namespace Go.Proofs.YtgoljkjaameagaaGreat.V
open Go.RowKit Go.Shelf Go.Lib Go.Sort
theorem Bz (w:World) (a b:Int):Calls Tryz.prog 210 #[.int .i64 a,.int .i64 b] w fun e w'=>e=.returned (.int .i64 (rM a b))/\w=w':=by
 go_enter Tryz.func210,Tryz.ntmps210
 go_wp2_with go_in
 all_goals
  go_ret
  exact⟨FU (by unfold rM;split<;>(try split)<;>omega),rfl⟩
theorem Mq (w:World) (a b:Int) (g:Nat) (ha:w.cell? ⟨g,0,none⟩=some (.int .i64 a)) (hb:w.cell? ⟨g,1,none⟩=some (.int .i64 b)):Calls Tryz.prog 233 #[.slice (some ⟨g,0,none⟩) 2 2] w fun e w'=>e=.returned (.int .i64 (Mr a b))/\w=w':=by
 go_enter Tryz.func233,Tryz.ntmps233
 go_wp2_with fail
 go_loop [8] (fun i=>∃k:Nat,k<=2/\i=.int .i64 k/\Hid ((1<=k->a=0)/\(2<=k->b=0))) (fun i=>2-(intOf i).toNat)
 case atStart=>exact⟨0,by omega,rfl,Lib.hid ⟨fun h=>by omega,fun h=>by omega⟩⟩
 case round=>
  obtain⟨k,hk,rfl,hz⟩:=hrel
  have h3:k=0∨k=1∨k=2:=by omega
  rcases h3 with rfl|rfl|rfl
  ·go_wp2_with fail
   ·rename_i h
    go_ret
    exact⟨FU (by unfold Mr;simp_all),rfl⟩
   ·rename_i h
    go_round
    case rel=>exact⟨1,by omega,rfl,Lib.hid ⟨fun _=>by simpa using h,fun h=>by omega⟩⟩
    case measure=>simp[intOf]
  ·have h0:=hz.out.1 (by omega)
   replace h0:=Lib.hid h0
   go_wp2_with fail
   ·go_ret
    exact⟨FU (by unfold Mr;rw[if_pos h0.out]),rfl⟩
   ·rename_i h
    go_round
    case rel=>exact⟨2,by omega,rfl,Lib.hid ⟨fun _=>h0.out,fun _=>by simpa using h⟩⟩
    case measure=>simp[intOf]
  ·have h0:=Lib.hid (hz.out.1 (by omega))
   have h1:=Lib.hid (hz.out.2 (by omega))
   go_wp2_with fail
   go_ret
   exact⟨FU (by unfold Mr;rw[if_pos h0.out,h1.out]),rfl⟩
def Grown (w w':World):Prop:=∃(q:Nat) (os:Array Obj),w'=Go.Sort.grow (w.drewN q) os
theorem Grown.refl (w:World):Grown w w:=⟨0, #[],by rw[grow_empty];rfl⟩
theorem Grown.alloc {w w':World} (h:Grown w w') (o:Obj):Grown w (w'.alloc o):=by
 obtain⟨q,os,rfl⟩:=h
 exact⟨q,os++ #[o],by rw[alloc_eq_grow,grow_grow]⟩
theorem Grown.drew {w w':World} (h:Grown w w'):Grown w w'.drew:=by
 obtain⟨q,os,rfl⟩:=h
 exact⟨q+1,os,by rw[drew_grow];rfl⟩
theorem Grown.dN {w w':World} (h:Grown w w') (n:Nat):Grown w (w'.drewN n):=by
 obtain⟨q,os,rfl⟩:=h
 exact⟨q+n,os,by
  show Go.Sort.grow ((w.drewN q).drewN n) os=Go.Sort.grow (w.drewN (q+n)) os
  simp[World.drewN,Nat.add_assoc]⟩
theorem uA (w:World) (a b:aI):Calls Tryz.prog 154 #[.agg #[.int .i64 a.eZ,.int .i64 a.eU],.agg #[.int .i64 b.eZ,.int .i64 b.eU]] w fun e w'=>e=.returned (.int .i64 (rN a b))/\Grown w w':=by
 go_enter Tryz.func154,Tryz.ntmps154
 go_wp2_with fail
 go_region_held3 (fun w'=>w'.cell? ⟨w.heap.size,0,none⟩=some (.int .i64 a.eZ)/\w'.cell? ⟨w.heap.size,1,none⟩=some (.int .i64 a.eU)/\
   w'.cell? ⟨w.heap.size+1,0,none⟩=some (.int .i64 b.eZ)/\w'.cell? ⟨w.heap.size+1,1,none⟩=some (.int .i64 b.eU))
  (first|go_keep)
  (first|(go_at_call 210;refine(Bz _ _ _).mono ?_;rintro e w' ⟨rfl,rfl⟩)|(go_at_call 233;refine(Mq _ (rM a.eU b.eU) (rM a.eZ b.eZ) _ (by simp[go_sem]) (by simp[go_sem])).mono ?_;rintro e w' ⟨rfl,rfl⟩))
 go_wp2_with fail
 go_ret
 refine⟨rfl,?_⟩
 repeat(first|(with_reducible exact Grown.refl _)|(refine Grown.alloc ?_ _)|(refine Grown.drew ?_)|(refine Grown.dN ?_ _))
instance:Inhabited ad:=⟨⟨⟨0,0⟩,0⟩⟩
variable {P:Program} {w:World} {D:Nat->Prop} {ι:Names}
def Gf (a b:ad):Int:=rN a.aO b.aO
theorem uS (a b:ad):ltOf Gf a b=jR a.aO b.aO:=by rw[ltOf,Gf,uU]
def Ic:Prop:=∀(xR off cap:Nat) (d:Array ad) (w:World),HoldsK eV 3 w xR off d->xR<w.heap.size->d.size<4611686018427387904->
 Calls Tryz.prog 185 #[.slice (some ⟨xR,off,none⟩) d.size cap,.func (.func 186) #[] #[]] w fun e w'=>e=.returned (.tuple #[])/\∃d' n os,PermIn 0 d.size d d'/\SortedIn (ltOf Gf) 0 d.size d'/\w'=sortWorldK eV 3 w xR off n d' os
def Ie:Prop:=∀(p:Option Addr) (cap:Nat) (fv:Value) (w:World),Calls Tryz.prog 185 #[.slice p 0 cap,fv] w fun e w'=>e=.returned (.tuple #[])/\w'=w
theorem IB (p:ad) (j:Nat) (a:AV) (h:(aa p)[j]? =some a) (P:Program) (w:World) (D:Nat->Prop) (ι:Names):cI P w D ι a (eV p)[j]! :=by
 match j,h with
 |0,h=>simp[aa]at h;subst h;exact .eO _ _ (.int _ _)
 |1,h=>simp[aa]at h;subst h;exact .eO _ _ (.int _ _)
 |2,h=>simp[aa]at h;subst h;exact .eO _ _ (.int _ _)
 |j+3,h=>simp[aa]at h
theorem Hr (hC:Ic) (hN:Ie) (ps:List ad) (hlen:ps.length<=1048576) (σ:ar) (id:Id) (hg:σ.get id=some ⟨true,3,ps.map aa⟩):
  Call Tryz.prog 185 [.own id 0 ps.length,.fn 186 []] σ fun r σ'=>σ'.next=σ.next/\(∀x,x≠id->σ'.get x=σ.get x)/\∃qs,σ'.get id=some ⟨true,3,qs.map aa⟩/\qs.length=ps.length/\qs.Perm ps/\∀i j:Nat,i<j->j<qs.length->jR (aJ qs j).aO (aJ qs i).aO=false:=by
 refine gP fun hs D ι w vs S U A=>?_
 obtain⟨u1,us1,rfl,h1,h2⟩:=zm A
 obtain⟨u2,us2,h3,h4,h5⟩:=zm h2
 simp at h3;subst h3
 have:=J2 h5
 simp at this;subst this
 obtain⟨o,cap,B,rfl,hB,IV,ho,td,hmax,hk⟩:=iS h1
 obtain⟨VE,gf,rfl,_,hz,_,_⟩:=AD h4
 have hz':VE= #[]:=Array.eq_empty_of_size_eq_zero (by simpa using hz)
 subst hz'
 by_cases h0:ps=[]
 ·subst h0
  refine(hN _ _ _ w).mono ?_
  rintro e w' ⟨rfl,rfl⟩
  exact⟨.gD [],σ.get,σ.next,D,ι,_,rfl,⟨rfl,fun _ _=>rfl,[],hg,rfl,List.Perm.refl _,fun i j _ hj=>by simp at hj⟩,Step.refl _ _ _ _,S,U,Nat.le_refl _,.gD [] #[] (fun _=>Go.undef) rfl (fun j hj=>by simp at hj) (fun j a h=>by simp at h)⟩
 have kz:0<ps.length:=List.length_pos_iff.2 h0
 obtain⟨B',dz,R,kq,mz⟩:=S.row id _ hg
 rw[hB]at dz;injection dz with dz;subst dz
 replace R:=R.row hk
 have fo:B.sz=3:=R.sz
 have C8:o=0:=by rcases ho with h|h<;>omega
 subst C8
 obtain⟨cur,T,hblk,dt,Fs⟩:=R.cur
 have BU:ps.length*3<=B.C:=by simpa using R.fits
 have hH:HoldsK eV 3 w B.b 0 ps.toArray:=by
  intro t ht
  rw[size_flatK]at ht
  have ht2:t<ps.length*3:=by simpa using ht
  have hi:t / 3<ps.length:=by omega
  have C5:w.frozen? ⟨B.b,0+t,none⟩=false:=by
   simp only[World.frozen?,hblk];simp
  refine⟨?_,C5⟩
  rw[get_flatK _ _ _ _ ht]
  have hd:(ps.toArray)[t / 3]! =ps[t / 3]:=by simp[getElem!_pos,hi]
  rw[hd]
  have hj:t % 3=0∨t % 3=1∨t % 3=2:=by omega
  have ht3:0+t=(t / 3)*3+t % 3:=by omega
  rw[ht3]
  rcases hj with hj|hj|hj
  ·obtain⟨v,hv,hr⟩:=R.at_ (t / 3) 0 (aa ps[t / 3]) _ (by simp[hi]) rfl
   rw[dq hr]at hv
   rw[hj];exact hv
  ·obtain⟨v,hv,hr⟩:=R.at_ (t / 3) 1 (aa ps[t / 3]) _ (by simp[hi]) rfl
   rw[dq hr]at hv
   rw[hj];exact hv
  ·obtain⟨v,hv,hr⟩:=R.at_ (t / 3) 2 (aa ps[t / 3]) _ (by simp[hi]) rfl
   rw[dq hr]at hv
   rw[hj];exact hv
 have ql:B.b<w.heap.size:=(Array.getElem?_eq_some_iff.1 hblk).1
 have Rc:=hC B.b 0 cap ps.toArray w hH ql (by simp;omega)
 rw[show ps.toArray.size=ps.length from by simp]at Rc
 refine Rc.mono ?_
 rintro e w' ⟨rfl,d',m,os,⟨FC,_,Fz⟩,hsort,rfl⟩
 have Rj:d'.size=ps.length:=by rw[FC];simp
 have hql:d'.toList.length=ps.length:=by simpa using Rj
 have hP:d'.toList.Perm ps:=by
  have e1:d'.extract 0 ps.length=d':=by rw[<-Rj];exact Array.extract_size
  have e2:ps.toArray.extract 0 ps.length=ps.toArray:=by
   have:ps.length=ps.toArray.size:=by simp
   rw[this];exact Array.extract_size
  rw[e1,e2]at Fz
  simpa using Fz
 have hF:∀t,t<ps.length*3->(flatK eV 3 d')[t]! =(eV d'[t / 3]!)[t % 3]! :=fun t ht=>get_flatK _ _ _ _ (by rw[Rj];exact ht)
 have hFs:(flatK eV 3 d').size=ps.length*3:=by rw[size_flatK,Rj]
 have hw:sortWorldK eV 3 w B.b 0 m d' os=Go.Sort.grow (Go.Sort.putRow (fun v:Value=>v) (Go.Sort.ahead w m) B.b 0 (flatK eV 3 d')) os:=rfl
 rw[hw]
 clear hw hH
 generalize flatK eV 3 d'=Fl at hF hFs ⊢
 have wL:=S.put (r':=⟨true,3,d'.toList.map aa⟩) (cur':=Go.Sort.putCells (fun v:Value=>v) 0 Fl cur) hg rfl hB hblk (by simp[Go.Sort.putCells]) rfl rfl (by simpa[Rj]using BU) (fun cs dt=>by
   obtain⟨x,_,rfl⟩:=List.mem_map.1 dt;rfl) (fun cs dt a ha=>by
   obtain⟨x,_,rfl⟩:=List.mem_map.1 dt
   simp[aa]at ha;rcases ha with rfl|rfl|rfl<;>rfl) (fun i j cs a hi hj=>by
   have yN:i<d'.toList.length:=by
    have:=(List.getElem?_eq_some_iff.1 hi).1
    simpa using this
   have UR:j<3:=by
    have:=List.mem_of_getElem? hi
    obtain⟨x,_,rfl⟩:=List.mem_map.1 this
    exact(List.getElem?_eq_some_iff.1 hj).1
   have UF:cs=aa d'[i]! :=by
    rw[List.getElem?_map,List.getElem?_eq_getElem yN]at hi
    simp at hi
    rw[<-hi,getElem!_pos d' i (by simpa using yN)]
   subst UF
   have O8:i*3+j<ps.length*3:=by omega
   refine⟨(eV d'[i]!)[j]!,?_,IB _ _ _ hj _ _ _ _⟩
   have nq:i*3+j<cur.size:=by rw[dt];omega
   show(Go.Sort.putCells (fun v:Value=>v) 0 Fl cur)[i*3+j]? = _
   simp only[Go.Sort.putCells,Array.getElem?_mapIdx,Array.getElem?_eq_getElem nq,Option.map_some]
   rw[if_pos ⟨Nat.zero_le _,by rw[hFs];omega⟩,Nat.sub_zero,hF _ O8,show(i*3+j) / 3=i from by omega,show(i*3+j) % 3=j from by omega])
 obtain⟨S1,sS⟩:=wL
 have RJ:(Go.Sort.putRow (fun v:Value=>v) (Go.Sort.ahead w m) B.b 0 Fl).heap.size=w.heap.size:=by simp
 have Ng:∀k,k<(w.setRow B.b (Go.Sort.putCells (fun v:Value=>v) 0 Fl cur)).heap.size->(Go.Sort.grow (Go.Sort.putRow (fun v:Value=>v) (Go.Sort.ahead w m) B.b 0 Fl) os).heap[k]? =(w.setRow B.b (Go.Sort.putCells (fun v:Value=>v) 0 Fl cur)).heap[k]? :=fun k hk=>by
  have GG:k<w.heap.size:=by simpa using hk
  rw[heap_grow_old _ _ (by rw[RJ];exact GG)]
  simp only[Go.Sort.putRow,Go.Sort.mapBlock,heap_ahead,Array.getElem?_modify]
  by_cases US:B.b=k
  ·subst US
   rw[setRow_heap w B.b cur _ T _ hblk,if_pos rfl,hblk];rfl
  ·rw[if_neg US,setRow_other w B.b k _ (fun h=>US h.symm)]
 have lu:(w.setRow B.b (Go.Sort.putCells (fun v:Value=>v) 0 Fl cur)).heap.size<=(Go.Sort.grow (Go.Sort.putRow (fun v:Value=>v) (Go.Sort.ahead w m) B.b 0 Fl) os).heap.size:=by
  rw[size_grow,RJ];simp
 have S2:=S1.stay (D':=D) (ι':=ι) Ng lu (fun _ h=>h) (fun b hb=>Nat.lt_of_lt_of_le (S1.dead b hb) lu) (fun _ h=>.inl h) (fun _ _ h=>h)
 have NM:=sS.trans (Step.stay (D':=D) (ι':=ι) S1 Ng lu (by simp[Go.Sort.grow,Go.Sort.putRow,Go.Sort.mapBlock,Go.Sort.ahead]) (by simp[Go.Sort.grow,Go.Sort.putRow,Go.Sort.mapBlock,Go.Sort.ahead]) (by simp[Go.Sort.grow,Go.Sort.putRow,Go.Sort.mapBlock,Go.Sort.ahead]) (fun _ h=>h) (fun _ h=>.inl h) (fun _ _ h=>h))
 refine⟨.gD [],bt σ.get id ⟨true,3,d'.toList.map aa⟩,σ.next,D,ι,_,rfl,⟨rfl,fun x hx=>by simp[bt,hx],d'.toList,by simp[bt],hql,hP,fun i j DR hj=>?_⟩,NM,S2,U,Nat.le_refl _,.gD [] #[] (fun _=>Go.undef) rfl (fun j hj=>by simp at hj) (fun j a h=>by simp at h)⟩
 have h:=hsort i j (Nat.zero_le _) DR (by omega)
 rw[uS]at h
 have e1:d'[j]! =aJ d'.toList j:=by rw[fh hj,getElem!_pos d' j (by simpa using hj)];rfl
 have hi:i<d'.toList.length:=by omega
 have e2:d'[i]! =aJ d'.toList i:=by rw[fh hi,getElem!_pos d' i (by simpa using hi)];rfl
 rw[<-e1,<-e2];exact h
theorem NH {w w':World} (h:Grown w w') (os:Array Obj):Grown w (Go.Sort.grow w' os):=by
 obtain⟨q,os0,rfl⟩:=h
 exact⟨q,os0++os,by rw[grow_grow]⟩
theorem Lp (w:World) (a b:ad):Calls Tryz.prog 186 #[.agg #[.int .i64 a.aO.eZ,.int .i64 a.aO.eU,.int .i64 a.aV],.agg #[.int .i64 b.aO.eZ,.int .i64 b.aO.eU,.int .i64 b.aV]] w fun e w'=>e=.returned (.int .i64 (Gf a b))/\Grown w w':=by
 go_enter Tryz.func186,Tryz.ntmps186
 go_wp2_with (first|(go_at_call 154;refine(uA _ a.aO b.aO).mono ?_;rintro e w' ⟨rfl,hG⟩))
 obtain⟨q,os,rfl⟩:=hG
 go_ret
 refine⟨rfl,NH (Grown.dN ?_ q) os⟩
 repeat(first|(with_reducible exact Grown.refl _)|(refine Grown.alloc ?_ _)|(refine Grown.drew ?_)|(refine Grown.dN ?_ _))
theorem VD:SWO (ltOf Gf) where
 irrefl x:=by rw[uS];exact ns
 trans x y z h1 h2:=by rw[uS]at *;exact jX h1 h2
 ntrans x y z h1 h2:=by rw[uS]at *;rw[pM]at *;omega
theorem PE:Ic:=fun xR off cap d w hH hblk fo=>by
 have eg:∀args w,(callFunc 186 args).run Tryz.prog w=.ok (.enter 186 args) w:=enters_of Tryz.func186 (by kernel_rfl) rfl
 have h:=AnyQ.slices_SortFunc Tryz.Kg 3 Tryz.isAgg171 Tryz.sizeOf171 eV (fun _=>rfl) (fun x v hv=>by simp[eV]at hv;rcases hv with rfl|rfl|rfl<;>rfl) Gf VD 186 #[] xR off cap d w eg (fun m os dk _ x y=>(Lp _ x y).mono fun _ _ ⟨he,q,os',hw⟩=>⟨he,q,os',hw⟩) hH hblk fo
 exact h
theorem PF:Ie:=fun p cap fv w=>AnyF.slices_SortFunc_none Tryz.Kg p cap fv w
end Go.Proofs.YtgoljkjaameagaaGreat.V

namespace Go.Proofs.YtgoljkjaameagaaGreat.V
open Go.RowKit
attribute [local irreducible] dI wpOps gy Call
attribute [local go_sem] aM fG eQ fZ fY cQ upd cC K.av cP AV.cells AV.cell rowOf rowsOf part ld rowAt bt cu dE ee ik bJ dh ew fX eX dp ej dd dc dQ dR bQ bf cW bP cY cX eh ek ei cV b4 de ef bK aP da cG ij bw cK bU aY dn bc dF AV.undef bF bI dS ec dM dK cH ev eA cF ep eo cZ db List.getD_cons_zero List.getD_cons_succ List.getD_nil List.all_cons List.all_nil Bool.and_true Bool.true_and Bool.and_self Bool.not_true Bool.not_false Option.map_some Option.map_none Option.bind_some Option.bind_none List.length_cons List.length_nil List.take_succ_cons List.take_zero List.take_nil List.drop_succ_cons List.drop_zero List.drop_nil List.head?_cons List.map_cons List.map_nil List.getElem?_cons_zero List.getElem?_cons_succ List.cons_append List.nil_append List.append_nil List.length_map List.set_cons_zero List.set_cons_succ Nat.reduceMul eq_self Int.toNat_natCast Int.natCast_nonneg and_self true_and and_true decide_true decide_false Bool.false_eq_true Nat.zero_add Nat.add_zero List.contains_cons List.contains_nil Bool.or_false Bool.false_or beq_self_eq_true Nat.reduceBEq ne_eq not_true_eq_false not_false_eq_true Id.mk.injEq false_and and_false Nat.reduceLT Int.reduceLE Int.reduceLT Int.reduceToNat Int.reduceNeg Int.reduceAdd Nat.le_refl List.length_append beq_true beq_false Bool.not_eq_eq_eq_not or_false false_or dJ ai aj aD bp bE cq aT bd aX bj cR bG
theorem Sd {σ:ar} {c T O:Id} {s:az} {ts:List ad} (h:lY σ.get σ.next c T O s ts) (hS:iw s.aH) (hF:∀q,0<=gF ts q->eM s.aH (gF ts q)=true) (p:aI) (hp:CC p=true) (t:Int) (ht:eM s.aH t=true) (h0:eF ts p<0):
  Call Tryz.prog 100 [.ptr c 0 0,.agg (ae p),.int .i64 t] σ (fun r σ'=>r=.gD []/\lY σ'.get σ'.next c T O s (ts++[⟨p,t⟩])/\σ.next<=σ'.next/\∀x:Id,x.ck<σ.next->x≠T->x≠O->σ'.get x=σ.get x):=by
 refine eL dX rfl fun kp=>?_
 clear kp
 obtain⟨hx,hy⟩:=tz hp
 have lx:=lQ.1 h0
 have LC:∀q,0<=gF (ts++[⟨p,t⟩]) q->eM s.aH (gF (ts++[⟨p,t⟩]) q)=true:=fun q hq=>by
  rw[zJ q lx]at hq ⊢
  split at hq
  ·rename_i he;rw[if_pos he];exact ht
  ·rename_i he;rw[if_neg he];exact hF q hq
 obtain⟨rows,ho,hw⟩:=h.op
 obtain⟨fi,GD⟩:=CB hw p.eZ p.eU
 have h1:=h.row
 have h2:=h.tl
 have v1:=dr h.cv
 have v2:=dr h.tv
 have v3:=dr h.ov
 have hm:=qZ h0
 have cT:=eq_false h.cT
 have cO:=eq_false h.cO
 have TO:=eq_false h.TO
 have Tc:=eq_false (fun e:T=c=>h.cT e.symm)
 have Oc:=eq_false (fun e:O=c=>h.cO e.symm)
 have OT:=eq_false (fun e:O=T=>h.TO e.symm)
 (try((repeat(revert hN;revert N;apply Pn.out));refine wk (tw @h1 (tw @h2 (tw @ho (tw @v1 (tw @v2 (tw @v3 (tw @hm (tw @GD (tw @cT (tw @cO (tw @TO (tw @Tc (tw @Oc (tw @OT @ae.eq_1)))))))))))))) ?_;(repeat(refine Pn.mk ?_;intro N hN))))
 have hG:∀x:Id,x.ck<σ.next->x≠T->x≠O->(bt (bt (bt σ.get ⟨100000000,σ.next⟩ ⟨true,2,[[.int .i64 p.eZ,.int .i64 p.eU]]⟩) T ⟨true,mP.pQ,ts.map aa++[[.int .i64 p.eZ,.int .i64 p.eU,.int .i64 t]]⟩) O ⟨true,mP.pQ,dK rows fi⟩) x=σ.get x:=fun x Pc Vu Ns=>by
  have a1:=eq_false Vu
  have a2:=eq_false Ns
  have a3:=dr Pc
  simp only[go_sem, ↓reduceIte,Nat.reduceEqDiff,Nat.reduceAdd,Nat.reduceSub,Nat.reduceLeDiff,reduceCtorEq,a1,a2,a3]
 have hC:lY (bt (bt (bt σ.get ⟨100000000,σ.next⟩ ⟨true,2,[[.int .i64 p.eZ,.int .i64 p.eU]]⟩) T ⟨true,mP.pQ,ts.map aa++[[.int .i64 p.eZ,.int .i64 p.eU,.int .i64 t]]⟩) O ⟨true,mP.pQ,dK rows fi⟩) (σ.next+1+1+1+1) c T O s (ts++[⟨p,t⟩]):=
  ⟨(hG c h.cv h.cT h.cO).trans h1,by simp only[go_sem, ↓reduceIte,Nat.reduceEqDiff,Nat.reduceAdd,Nat.reduceSub,Nat.reduceLeDiff,reduceCtorEq,TO];rw[List.map_append];rfl,⟨_,sd @Nat.zero_add,JV hw fi⟩,by have:=h.cv;omega,by have:=h.tv;omega,by have:=h.ov;omega,h.cT,h.cO,h.TO⟩
 refine .inr (aC _ _ _ _ _ (fun r σ1 hq=>?_) (r4 (σ:=⟨_,σ.next+1+1+1+1⟩) hC.xJ hC.cO hC.TO hC.op hS LC p hx hy))
 obtain⟨g1,x1⟩:=σ1
 obtain⟨rfl,hL⟩:=hq
 (try dsimp only at hL)
 have IS:=hC.look (σ:=⟨_,σ.next+1+1+1+1⟩) hL
 have hn:=hL.1
 have hf:=hL.2.1
 (try dsimp only at hn hf)
 refine hN _ _ ?_
 clear hN N
 (try((repeat(revert hN;revert N;apply Pn.out));refine wk @Nat.zero_add ?_;(repeat(refine Pn.mk ?_;intro N hN))))
 exact e9 (.inr rfl) (vs:=[]) rfl ⟨rfl,IS.frame (by(try dsimp only);omega) fun _ _=>rfl,by(try dsimp only);omega,fun x Pc Vu Ns=>(hf x (by omega) Ns).trans (hG x Pc Vu Ns)⟩
end Go.Proofs.YtgoljkjaameagaaGreat.V

namespace Go.Proofs.YtgoljkjaameagaaGreat.V
open Go.RowKit
def CH (m:MK) (it nx ok en:Nat) (id:Id) (B:(Ex->Env->ar->Prop)->Env->ar->Prop) (b b1:Nat) (Q:Ex->Env->ar->Prop):Nat->List (List AV)->Env->ar->Prop
 |0,_,env,σ=>env it=.ptr id 0 0/\Q .normal (upd (upd env (some nx) (.gD [.bool false])) (some ok) (.bool false)) ⟨σ.get,σ.next+1⟩
 |n+1,left,env,σ=>env it=.ptr id 0 0/\∀i cs kv vv,left[i]? =some cs->part m.ka m.ks cs=some kv->cs[m.ks]? =some vv->
   B (bc b1 (dn (CH m it nx ok en id B b b1 Q n (left.eraseIdx i)) (bc b Q))) (upd (upd (upd env (some nx) (.gD [.bool true,kv,vv])) (some ok) (.bool true)) (some en) (.gD [kv,vv])) ⟨σ.get,σ.next+1⟩
def Hn (m:MK) (tm:O) (site it nx ok en:Nat) (B:(Ex->Env->ar->Prop)->Env->ar->Prop) (b b1:Nat) (Q:Ex->Env->ar->Prop) (env:Env) (σ:ar):Prop:=
 ∃id r,cQ env tm=.map id m/\σ.get id=some r/\r.w=true/\CH m it nx ok en ⟨site,σ.next⟩ B b b1 Q r.rows.length r.rows (upd env (some it) (.ptr ⟨site,σ.next⟩ 0 0)) ⟨bt σ.get id {r with w:=false},σ.next+1⟩
variable {P:Program} {w w':World} {D D':Nat->Prop} {ι ι':Names} {hs:Nat} {g:Rows}
theorem jM.DF (hc:∀b x,D b->w'.cell? ⟨b,x,none⟩=w.cell? ⟨b,x,none⟩) {a:AV} {v:Value} (h:jM P w D a v):jM P w' D a v:=by
 induction h with
 |int k n=>exact .int k n
 |bool b=>exact .bool b
 |str s=>exact .str s
 |bl=>exact .bl
 |gT=>exact .gT
 |jd=>exact .jd
 |jo=>exact .jo
 |Bg a c h=>exact .Bg a c h
 |sl rows b o n c sz vs h1 h2 h3 h4 h5 h5' h6 _ ih=>exact .sl rows b o n c sz vs h1 h2 h3 h4 h5 h5' (fun i j hi hj=>(hc b _ h4).trans (h6 i j hi hj)) ih
 |di cs b o vs h1 Ol h2 _ ih=>exact .di cs b o vs h1 Ol (fun j hj=>(hc b _ h1).trans (h2 j hj)) ih
 |agg cs vs f h1 h2 h3 _ ih=>exact .agg cs vs f h1 h2 h3 ih
 |fn f cN vs g h1 h2 h3 _ ih=>exact .fn f cN vs g h1 h2 h3 ih
theorem cI.DF (hc:∀b x,D b->w'.cell? ⟨b,x,none⟩=w.cell? ⟨b,x,none⟩) {a:AV} {v:Value} (h:cI P w D ι a v):cI P w' D ι a v:=by
 induction h with
 |eO a v h=>exact .eO a v (h.DF hc)
 |map id m B h1 h2=>exact .map id m B h1 h2
 |rL id c B h1 h2=>exact .rL id c B h1 h2
 |own id off len o cap B h1 h2 h3 h4 h5 h6=>exact .own id off len o cap B h1 h2 h3 h4 h5 h6
 |ptr id i off B h1 h2=>exact .ptr id i off B h1 h2
 |agg cs vs f h1 h2 h3 _ ih=>exact .agg cs vs f h1 h2 h3 ih
 |gD cs vs f h1 h2 _ ih=>exact .gD cs vs f h1 h2 ih
 |fn f cN vs g h1 h2 h3 _ ih=>exact .fn f cN vs g h1 h2 h3 ih
 |uj f cN vs g h1 h2 h3 _ ih=>exact .uj f cN vs g h1 h2 h3 ih
def mZ (w:World) (rr:Nat):Prop:=∃m s seen c,w.heap[rr]? =some (.mapIter m s seen c)
theorem mZ.cell {rr:Nat} (h:mZ w rr) (x:Nat):w.cell? ⟨rr,x,none⟩=none:=by
 obtain⟨m,s,seen,c,h⟩:=h
 simp[World.cell?,h]
theorem gO.JO {B:sL} {r:Row} (R:gO P w D ι B r):¬mZ w B.b:=by
 rintro⟨m,s,seen,c,h⟩
 cases hk:B.k with
 |none=>obtain⟨c',T,h3,_⟩:=(R.row hk).xR;rw[h]at h3;cases h3
 |some k=>
  cases k with
  |map m=>obtain⟨_,es,c',h3,_⟩:=R.map m hk;rw[h]at h3;cases h3
  |chan c=>obtain⟨_,buf,s',q,h3,_⟩:=R.chan c hk;rw[h]at h3;cases h3
theorem yZ {rr:Nat} (h:mZ w rr) (h':mZ w' rr) (ho:∀b,b≠rr->w'.heap[b]? =w.heap[b]?):(∀{a v},cI P w D ι a v->cI P w' D ι a v):=fun hr=>hr.DF fun b x _=>by
 by_cases hb:b=rr
 ·subst hb;rw[h.cell,h'.cell]
 ·exact World.cell?_of_block (ho b hb)
theorem gz.iter {rr:Nat} (S:gz P hs D ι g w) (h:mZ w rr) (h':mZ w' rr) (ho:∀b,b≠rr->w'.heap[b]? =w.heap[b]?) (hz:w'.heap.size=w.heap.size):gz P hs D ι g w':=
 ⟨by rw[hz];exact S.lo,fun b hb=>by rw[hz];exact S.dead b hb,fun id r hg=>by
  obtain⟨B,hB,R,k1,k2⟩:=S.row id r hg
  exact⟨B,hB,R.frame (ho _ fun e=>R.JO (e▸h)) fun a v hr=>yZ h h' ho hr,k1,k2⟩,S.inj⟩
theorem mU {ops:Array Oper} {Q:Exit->Act->World->Prop} {a:Act} {o:Oper} {l:List Oper} {v:Value} (hg:o.guard=none) (gj:(execOp a.eval o).run P w=.ok (.value v) w') (h:wpList P ops Q l (a.put o.dst v) w'):wpList P ops Q (o::l) a w:=by
 unfold wpList
 rw[if_pos (by simp[Region.wanted,hg])]
 exact .inl (by unfold Oper.wp;rw[gj];exact h)
theorem J5 {x y:AV} {u v:Value} (h1:cI P w D ι x u) (h2:cI P w D ι y v):cI P w D ι (.gD [x,y]) (.tuple #[u,v]):=
 .gD _ _ (fun j=>if j=0 then u else v) rfl (fun j hj=>by match j,hj with|0,_=>rfl|1,_=>rfl|j+2,hj=>simp at hj;omega) (fun j a ha=>by match j,ha with|0,ha=>simp at ha;subst ha;exact h1|1,ha=>simp at ha;subst ha;exact h2|j+2,ha=>simp at ha)
theorem J6 {x y z:AV} {u v t:Value} (h1:cI P w D ι x u) (h2:cI P w D ι y v) (h3:cI P w D ι z t):cI P w D ι (.gD [x,y,z]) (.tuple #[u,v,t]):=
 .gD _ _ (fun j=>if j=0 then u else if j=1 then v else t) rfl (fun j hj=>by match j,hj with|0,_=>rfl|1,_=>rfl|2,_=>rfl|j+3,hj=>simp at hj;omega) (fun j a ha=>by match j,ha with|0,ha=>simp at ha;subst ha;exact h1|1,ha=>simp at ha;subst ha;exact h2|2,ha=>simp at ha;subst ha;exact h3|j+3,ha=>simp at ha)
theorem J4 {x:AV} {u:Value} (h1:cI P w D ι x u):cI P w D ι (.gD [x]) (.tuple #[u]):=
 .gD _ _ (fun _=>u) rfl (fun j hj=>by match j,hj with|0,_=>rfl|j+1,hj=>simp at hj) (fun j a ha=>by match j,ha with|0,ha=>simp at ha;subst ha;exact h1|j+1,ha=>simp at ha)
structure MZ (P:Program) (w:World) (D:Nat->Prop) (ι:Names) (m:MK) (L:List MapEntry) (left:List (List AV)):Prop where
 len:left.length=L.length
 at_:∀(i:Nat) (cs:List AV),left[i]? =some cs->∃(e:MapEntry) (kv vv:AV),L[i]? =some e/\part m.ka m.ks cs=some kv/\cs[m.ks]? =some vv/\cI P w D ι kv e.key/\cI P w D ι vv e.val
theorem MZ.rep {m:MK} {L:List MapEntry} {left:List (List AV)} (h:MZ P w D ι m L left) (hr:∀{a v},cI P w D ι a v->cI P w' D' ι' a v):MZ P w' D' ι' m L left:=⟨h.len,fun i cs hi=>by
 obtain⟨e,kv,vv,h1,h2,h3,h4,h5⟩:=h.at_ i cs hi
 exact⟨e,kv,vv,h1,h2,h3,hr h4,hr h5⟩⟩
theorem np {α β:Type} {l:List α} {k:List β} {i j:Nat} {x:α} (hl:l.length=k.length) (h:(l.eraseIdx i)[j]? =some x):∃q:Nat,l[q]? =some x/\(k.eraseIdx i)[j]? =k[q]? :=by
 rw[List.getElem?_eraseIdx]at h
 split at h
 ·rename_i hj;exact⟨j,h,by rw[List.getElem?_eraseIdx,if_pos hj]⟩
 ·rename_i hj;exact⟨j+1,h,by rw[List.getElem?_eraseIdx,if_neg hj]⟩
theorem MZ.erase {m:MK} {L:List MapEntry} {left:List (List AV)} (h:MZ P w D ι m L left) {i:Nat} (hi:i<L.length):MZ P w D ι m (L.eraseIdx i) (left.eraseIdx i):=⟨by
 rw[List.length_eraseIdx,List.length_eraseIdx,h.len],fun j cs hj=>by
 obtain⟨q,hq,he⟩:=np h.len hj
 obtain⟨e,kv,vv,h1,h2⟩:=h.at_ q cs hq
 exact⟨e,kv,vv,he.trans h1,h2⟩⟩
theorem nL:∀{l:List MapEntry} {i:Nat} {e:MapEntry},(l.map (·.born)).Nodup->l[i]? =some e->l.filter (fun x=>x.born !=e.born)=l.eraseIdx i
 |x::l,0,e,hn,h=>by
  simp at h;subst h
  obtain⟨h1,h2⟩:=List.nodup_cons.1 (show(x.born::l.map (·.born)).Nodup from hn)
  rw[List.filter_cons,if_neg (by simp),List.eraseIdx_cons_zero]
  refine List.filter_eq_self.2 fun y hy=>?_
  have:y.born≠x.born:=fun hc=>h1 (by rw[<-hc];exact List.mem_map_of_mem hy)
  simpa using this
 |x::l,i+1,e,hn,h=>by
  obtain⟨h1,h2⟩:=List.nodup_cons.1 (show(x.born::l.map (·.born)).Nodup from hn)
  simp only[List.getElem?_cons_succ]at h
  have hx:x.born≠e.born:=fun hc=>h1 (by rw[hc];exact List.mem_map_of_mem (List.mem_of_getElem? h))
  rw[List.filter_cons,if_pos (by simpa using hx),List.eraseIdx_cons_succ,nL h2 h]
theorem Ed {es:Array MapEntry} {clock:Nat} {seen:Array Nat} {i:Nat} {e:MapEntry} (hs:Li es clock) (h:(leftOf es seen).toList[i]? =some e):(leftOf es (seen.push e.born)).toList=(leftOf es seen).toList.eraseIdx i:=by
 have hn:((leftOf es seen).toList.map (·.born)).Nodup:=by
  unfold leftOf
  rw[Array.toList_filter]
  exact((List.filter_sublist (p:=fun e=> !seen.contains e.born) (l:=es.toList)).map MapEntry.born).nodup hs.2
 rw[<-nL hn h]
 unfold leftOf
 rw[Array.toList_filter,Array.toList_filter,List.filter_filter]
 refine List.filter_congr fun x _=>?_
 rw[contains_push]
 cases seen.contains x.born<;>cases hb:(x.born==e.born)<;>simp_all
theorem eval_put {a:Act} {d:Nat} {v:Value} (h:d<a.tmps.size):(a.put (some d) v).eval (.tmp d)=v:=by
 simp[Act.put,Act.eval,h]
def Ka (ix ie b b1 ok:Nat) (Ek Hd Ej:Oper) (se:List Oper) (nK:Code):Code:=
 .seq (.region ix #[Ek,Hd] false) (.seq (.cond (.tmp ok) .skip (.exit b)) (.block b1 (.seq (.region ie (Ej::se).toArray false) nK)))
structure Ia (P:Program) (md:List (Nat×Nat)) (nt fid s0 it nx ok en:Nat) (Ek Hd Ej:Oper) (se:List Oper) (nK:Code) (vE:List bq) (sJ:VC):Prop where
 h1:Ek.op=.next (.tmp it) false
 h2:Ek.dst=some nx
 h3:Ek.guard=none
 h4:Hd.op=.extract (.tmp nx) 0
 h5:Hd.dst=some ok
 h6:Hd.guard=none
 h7:Ej.op=.entry (.tmp it)
 h8:Ej.dst=some en
 h9:Ej.guard=none
 QC:nx<nt
 TA:ok<nt
 lt3:en<nt
 ne1:it≠nx
 ne2:it≠ok
 hE:allM (kQ P (Ej::se).toArray nt s0 false false #[] []) se 1=some vE
 hR:ju P md nt fid nK=some sJ
theorem Ev (hm:P.follows .mixedOrders=true) {md:List (Nat×Nat)} {nt fid s0 ix ie b b1 it nx ok en:Nat} {m:MK} {id:Id} {Ek Hd Ej:Oper} {se:List Oper} {nK:Code} {vE:List bq} {sJ:VC}
  (O:Ia P md nt fid s0 it nx ok en Ek Hd Ej se nK vE sJ) {rr bm:Nat} {es:Array MapEntry} {clock:Nat} (GK:Li es clock) {ds:List Deferred} {n0:Nat} {D0:Nat->Prop} {ι0:Names} {w0:World} {Q:Ex->Env->ar->Prop} {Q':Exit->Act->World->Prop}
  (hQ:tP P hs nt ds Q n0 D0 ι0 w0 Q') (hD0:¬D0 rr) (hrr:hs<=rr) (gZ:bm≠rr):
  ∀(n:Nat) (left:List (List AV)) (env:Env) (σ:ar) (a:Act) (w:World) (D:Nat->Prop) (ι:Names) (seen:Array Nat),
   CH m it nx ok en id (dI (Sound P) (.seq (.eJ false vE) sJ)) b b1 Q n left env σ->St P hs nt D ι env σ a w->a.defers=ds->n0<=σ.next->Step hs D0 ι0 w0 D ι w->
   (∃sz C,ι id=some ⟨rr,sz,C,none⟩)->D rr->D bm->w.heap[rr]? =some (.mapIter (some bm) clock seen clock)->w.heap[bm]? =some (.map es clock)->left.length=n->MZ P w D ι m (leftOf es seen).toList left->
   pO P (Ka ix ie b b1 ok Ek Hd Ej se nK) (Exit.inBlock b Q') (n+1) a w:=by
 intro n
 induction n with
 |zero=>
  intro left env σ a w D ι seen hv dH hd HR T hid Uh Ue hr hb hlen hL
  obtain⟨LM,hq⟩:=hv
  have ha:a.tmps.getD it undef=.pointer (some ⟨rr,0,none⟩):=by
   have:=dH.env it
   rw[LM]at this
   obtain⟨B,e,hB,_⟩:=iE this
   obtain⟨sz,C,hid⟩:=hid
   rw[hid]at hB;injection hB with hB;subst hB
   simpa using e
  have S3:a.eval (.tmp it)=.pointer (some ⟨rr,0,none⟩):=ha
  rcases run_next_at (P:=P) w Ek.type rr bm clock clock seen es clock hr hb GK.1 (Nat.le_refl _)with⟨_,gj⟩|⟨e,he,_⟩
  rotate_left
  ·have h0:(leftOf es seen).toList=[]:=List.eq_nil_of_length_eq_zero (by rw[<-hL.len,hlen])
   rw[h0]at he;simp at he
  have FC:nx<a.tmps.size:=by rw[dH.size];exact O.QC
  have E2:=iz (iz dH.env (J4 (.eO _ _ (.bool false))) (dst:=some nx) (fun d h=>by cases h;exact O.QC) dH.size) (.eO _ _ (.bool false)) (dst:=some ok) (fun d h=>by cases h;exact O.TA) (by rw[eW];exact dH.size)
  show A6 P (.seq _ _) _ a w
  refine lT (kD (wp_region_list ?_))
  refine mU (v:=.tuple #[.bool false]) (w':=w) O.h3 (by simp[execOp,O.h1,S3,gj,Result.andThen]) ?_
  refine mU (v:=.bool false) (w':=w) O.h6 (by rw[O.h2];simp[execOp,O.h4,eval_put FC,Instr.extract]) ?_
  rw[O.h2,O.h5]
  refine lT (w6 (t:=false) (eval_put (by rw[eW,dH.size];exact O.TA)) (kD (wp_exit ?_)))
  show Exit.inBlock b Q' (.exit b) _ _
  simp only[Exit.inBlock,if_true]
  exact hQ .normal _ ⟨σ.get,σ.next+1⟩ _ w D ι hq T ⟨dH.tD,dH.used.next,E2,by rw[eW,eW];exact dH.size⟩ (by rw[put_defers,put_defers];exact hd) (Nat.le_succ_of_le HR)
 |succ n ih=>
  intro left env σ a w D ι seen hv dH hd HR T hid Uh Ue hr hb hlen hL
  obtain⟨LM,hq⟩:=hv
  have ha:a.tmps.getD it undef=.pointer (some ⟨rr,0,none⟩):=by
   have:=dH.env it
   rw[LM]at this
   obtain⟨B,e,hB,_⟩:=iE this
   obtain⟨sz,C,hid⟩:=hid
   rw[hid]at hB;injection hB with hB;subst hB
   simpa using e
  have S3:a.eval (.tmp it)=.pointer (some ⟨rr,0,none⟩):=ha
  rcases run_next_at (P:=P) w Ek.type rr bm clock clock seen es clock hr hb GK.1 (Nat.le_refl _)with⟨h0,_⟩|⟨e,he,w1,jq,gj⟩
  ·have:=hL.len
   rw[hlen,Array.length_toList]at this;omega
  obtain⟨i,hi,HP⟩:=List.getElem_of_mem he
  have Rs:(leftOf es seen).toList[i]? =some e:=by rw[List.getElem?_eq_getElem hi,HP]
  have lK:i<left.length:=by rw[hL.len];exact hi
  obtain⟨e',kv,vv,q1,q2,q3,q4,q5⟩:=hL.at_ i left[i] (List.getElem?_eq_getElem lK)
  rw[Rs]at q1;injection q1 with q1;subst q1
  replace hq:=hq i left[i] kv vv (List.getElem?_eq_getElem lK) q2 q3
  have OZ:w1.heap[rr]? =some (.mapIter (some bm) clock seen clock):=by rcases jq with rfl|rfl<;>exact hr
  have eE:=MapKept.heap_set (o':=.mapIter (some bm) clock (seen.push e.born) clock) OZ
  obtain⟨w2,jJ⟩:∃w2,ChangeMaps.setBlock w1 rr (.mapIter (some bm) clock (seen.push e.born) clock)=w2:=⟨_,rfl⟩
  have ho:∀k,k≠rr->w2.heap[k]? =w.heap[k]? :=fun k hk=>by
   rw[<-jJ]
   refine(eE.2 k hk).trans ?_
   rcases jq with rfl|rfl<;>rfl
  have hz:w2.heap.size=w.heap.size:=by
   rw[<-jJ]
   rcases jq with rfl|rfl<;>simp[ChangeMaps.setBlock]
  have DU:w2.heap[rr]? =some (.mapIter (some bm) clock (seen.push e.born) clock):=by rw[<-jJ];exact eE.1
  have x8:w2.os=w.os/\w2.tape=w.tape/\w2.output=w.output:=by
   rw[<-jJ]
   rcases jq with rfl|rfl<;>exact⟨rfl,rfl,rfl⟩
  rw[jJ]at gj
  clear jJ eE
  have I1:mZ w rr:=⟨_,_,_,_,hr⟩
  have I2:mZ w2 rr:=⟨_,_,_,_,DU⟩
  have rt:∀{a v},cI P w D ι a v->cI P w2 D ι a v:=yZ I1 I2 ho
  have S2:=dH.tD.iter I1 I2 ho hz
  have T2:Step hs D0 ι0 w0 D ι w2:=⟨⟨x8.1.trans T.below.os,x8.2.1.trans T.below.tape,x8.2.2.trans T.below.output,by rw[hz];exact T.below.size,fun k hk=>(ho k (by omega)).trans (T.below.block k hk)⟩,fun k hk=>(ho k (fun hc=>hD0 (hc▸hk))).trans (T.qT k hk),T.dead,T.names,T.new⟩
  have Gy:w2.heap[bm]? =some (.map es clock):=(ho bm gZ).trans hb
  have FC:nx<a.tmps.size:=by rw[dH.size];exact O.QC
  have E1:cr P w2 D ι env a:=fun t=>rt (dH.env t)
  have E2:=iz (iz E1 (J6 (.eO _ _ (.bool true)) (rt q4) (rt q5)) (dst:=some nx) (fun d h=>by cases h;exact O.QC) dH.size) (.eO _ _ (.bool true)) (dst:=some ok) (fun d h=>by cases h;exact O.TA) (by rw[eW];exact dH.size)
  have E3:=iz E2 (J5 (rt q4) (rt q5)) (dst:=some en) (fun d h=>by cases h;exact O.lt3) (by rw[eW,eW];exact dH.size)
  have HM:=run_entry_at (P:=P) w2 rr bm clock seen es clock e DU Gy (mem_left he).1 GK.2
  show A6 P (.seq _ _) _ a w
  refine lT (kD (wp_region_list ?_))
  refine mU (v:=.tuple #[.bool true,e.key,e.val]) (w':=w2) O.h3 (by simp[execOp,O.h1,S3,gj,Result.andThen]) ?_
  refine mU (v:=.bool true) (w':=w2) O.h6 (by rw[O.h2];simp[execOp,O.h4,eval_put FC,Instr.extract]) ?_
  rw[O.h2,O.h5]
  refine lT (w6 (t:=true) (eval_put (by rw[eW,dH.size];exact O.TA)) (kD (wp_skip ?_)))
  refine tt (lT (kD (wp_region_list ?_)))
  show wpList P _ _ (Ej::se) _ _
  have ha3:(((a.put (some nx) (.tuple #[.bool true,e.key,e.val])).put (some ok) (.bool true)).eval (.tmp it))=.pointer (some ⟨rr,0,none⟩):=by
   have n1:=O.ne1
   have n2:=O.ne2
   rw[<-S3]
   simp[Act.put,Act.eval,Array.getD_eq_getD_getElem?,Array.getElem?_setIfInBounds,Ne.symm n1,Ne.symm n2]
  refine mU (v:=.tuple #[e.key,e.val]) (w':=w2) O.h9 (by simp[execOp,O.h7,ha3,HM,Result.andThen]) ?_
  rw[O.h8]
  refine zg se vE 1 _ ⟨σ.get,σ.next+1⟩ _ w2 D ι (fun _=>False) O.hE hq S2 dH.used.next (fun _ h=>h.elim) E3 (by rw[eW,eW,eW];exact dH.size) fun T5 σ3 a3 w3 D3 ι3 hk T3 St3 Rg UX=>?_
  refine qz hm nK sJ O.hR _ T5 σ3 a3 w3 D3 ι3 _ hk St3 fun ex ID σ4 a4 w4 D4 ι4 Jh T4 TN Rh UY=>?_
  have UH:a4.defers=ds:=by rw[Rh,Rg,put_defers,put_defers,put_defers];exact hd
  have U9:n0<=σ4.next:=Nat.le_trans HR (Nat.le_trans (Nat.le_succ _) (Nat.le_trans UX UY))
  have NN:=T3.trans T4
  have TT:=T2.trans NN
  have um:CH m it nx ok en id (dI (Sound P) (.seq (.eJ false vE) sJ)) b b1 Q n (left.eraseIdx i) ID σ4->pO P (Ka ix ie b b1 ok Ek Hd Ej se nK) (Exit.inBlock b Q') (n+1) a4 w4:=fun hq5=>by
   refine ih (left.eraseIdx i) ID σ4 a4 w4 D4 ι4 (seen.push e.born) hq5 TN UH U9 TT ?_ (NN.dead _ Uh) (NN.dead _ Ue) ((NN.qT _ Uh).trans DU) ((NN.qT _ Ue).trans Gy) ?_ ?_
   ·obtain⟨sz,C,hid⟩:=hid;exact⟨sz,C,NN.names _ _ hid⟩
   ·rw[List.length_eraseIdx,if_pos lK,hlen];rfl
   ·rw[Ed GK Rs]
    exact(hL.erase hi).rep fun hr=>NN.rep (rt hr)
  have out:∀ex,ex≠.normal->Q ex ID σ4->Q' (SJ ex) a4 w4:=fun ex _ h=>hQ ex ID σ4 a4 w4 D4 ι4 h TT TN UH U9
  cases ex with
  |normal=>exact um Jh
  |ret=>exact out .ret (by simp) Jh
  |exit j6=>
   simp only[bc]at Jh
   simp only[SJ,Exit.inBlock]
   by_cases h1:j6=b1
   ·rw[if_pos h1]at Jh ⊢
    exact um Jh
   ·rw[if_neg h1]at Jh ⊢
    simp only[dn,bc]at Jh
    show Exit.inBlock b Q' (.exit j6) a4 w4
    simp only[Exit.inBlock]
    by_cases h2:j6=b
    ·rw[if_pos h2]at Jh ⊢
     exact hQ .normal ID σ4 a4 w4 D4 ι4 Jh TT TN UH U9
    ·rw[if_neg h2]at Jh ⊢
     exact out (.exit j6) (by simp) Jh
def CS (P:Program) (nt:Nat) (c:Code) (W:(Ex->Env->ar->Prop)->Env->ar->Prop):Prop:=
 ∀(hs:Nat) (Q:Ex->Env->ar->Prop) (env:Env) (σ:ar) (a:Act) (w:World) (D:Nat->Prop) (ι:Names) (Q':Exit->Act->World->Prop),W Q env σ->St P hs nt D ι env σ a w->tP P hs nt a.defers Q σ.next D ι w Q'->A6 P c Q' a w
theorem CS.code (hm:P.follows .mixedOrders=true) {md:List (Nat×Nat)} {nt fid:Nat} {c:Code} {vc:VC} (h:ju P md nt fid c=some vc):CS P nt c (dI (Sound P) vc):=
 fun _ Q env σ a w D ι Q' hv dH hQ=>qz hm c vc h Q env σ a w D ι Q' hv dH hQ
theorem CS.seq {nt:Nat} {x y:Code} {V W:(Ex->Env->ar->Prop)->Env->ar->Prop} (h:CS P nt x V) (k:CS P nt y W):CS P nt (.seq x y) (fun Q=>V (dn (W Q) Q)):=fun hs Q env σ a w D ι Q' hv dH hQ=>by
 refine lT (h hs _ env σ a w D ι _ hv dH fun ex jl σ1 a1 w1 D1 ι1 hq T kg hd hle=>?_)
 cases ex with
 |normal=>exact k hs Q jl σ1 a1 w1 D1 ι1 Q' hq kg (by rw[hd];exact hQ.later T hle)
 |exit id=>exact hQ (.exit id) jl σ1 a1 w1 D1 ι1 hq T kg hd hle
 |ret=>exact hQ .ret jl σ1 a1 w1 D1 ι1 hq T kg hd hle
theorem CS.rng (hm:P.follows .mixedOrders=true) {md:List (Nat×Nat)} {nt fid s0 sA site ia ix ie b b1 it nx ok en:Nat} {m:MK} {Ek Hd Ej En:Oper} {JY se:List Oper} {nK:Code} {vA vE:List bq} {sJ:VC} {t k e:TypeId} {tm:Operand} {tm':O}
  (O:Ia P md nt fid s0 it nx ok en Ek Hd Ej se nK vE sJ) (h1:En.op=.range t tm) (h2:En.dst=some it) (h3:En.guard=none) (dU:it<nt) (ht:P.underlying t=some (.map k e)) (RK:cO P tm=some tm') (hA:allM (kQ P (JY++[En]).toArray nt sA false false #[] []) JY 0=some vA):
  CS P nt (.seq (.region ia (JY++[En]).toArray false) (.block b (.loop (Ka ix ie b b1 ok Ek Hd Ej se nK))))
   (fun Q=>wpOps (Sound P) false vA (Hn m tm' site it nx ok en (dI (Sound P) (.seq (.eJ false vE) sJ)) b b1 Q)):=fun hs Q env σ a w D ι Q' hv dH hQ=>by
 refine lT (kD (wp_region_list ?_))
 show wpList P _ _ (JY++[En]) a w
 refine w8 [En] JY vA 0 env σ a w D ι (fun _=>False) hA hv dH.tD dH.used (fun _ h=>h.elim) dH.env dH.size fun jl σ1 a1 w1 D1 ι1 hk T sS ve GH=>?_
 obtain⟨id,r,hid,hg,hw,hr⟩:=hk
 have gN:=dj sS.env RK
 rw[hid]at gN
 obtain⟨B,hv,hB,hk⟩:=FT gN
 obtain⟨B',dz,R,kq,mz⟩:=sS.tD.row id r hg
 rw[hB]at dz;injection dz with dz;subst dz
 obtain⟨hrsz,es,clock,hb,fo,⟨hlen,GK⟩,hM⟩:=R.map m hk
 have SM:=R.lt
 have gj:=run_range_map (P:=P) w1 t k e B.b es clock ht hb
 refine mU (v:=.pointer (some ⟨w1.heap.size,0,none⟩)) (w':=w1.alloc (.mapIter (some B.b) clock #[] clock)) h3 (by simp[execOp,h1,hv,gj,Result.andThen]) ?_
 rw[h2]
 obtain⟨w2,jJ⟩:∃w2,w1.alloc (.mapIter (some B.b) clock #[] clock)=w2:=⟨_,rfl⟩
 have hblk:∀b,b<w1.heap.size->w2.heap[b]? =w1.heap[b]? :=fun b hb=>by rw[<-jJ];exact Below.heap_alloc _ _ _ hb
 have kr:w2.heap[w1.heap.size]? =some (.mapIter (some B.b) clock #[] clock):=by rw[<-jJ];exact heap_alloc_new _ _
 have hz:w2.heap.size=w1.heap.size+1:=by rw[<-jJ];simp
 have x8:w2.os=w1.os/\w2.tape=w1.tape/\w2.output=w1.output:=by rw[<-jJ];exact⟨rfl,rfl,rfl⟩
 rw[jJ]
 clear jJ gj
 let D2:Nat->Prop:=fun x=>D1 x∨x=B.b∨x=w1.heap.size
 let ι2:Names:=kM ι1 ⟨site,σ1.next⟩ ⟨w1.heap.size,1,0,none⟩
 have jG:ι1 ⟨site,σ1.next⟩=none:=fresh sS.used (fun h=>h)
 have Tr:∀{a v},cI P w1 D1 ι1 a v->cI P w2 D2 ι2 a v:=fun h=>h.frame (fun b hd=>hblk b (sS.tD.dead b hd)) (fun _ h=>.inl h) (fb jG)
 have zf:∀{j q C},σ1.get j=some q->ι2 j=some C->ι1 j=some C:=fun {j q C} hj hC=>by
  obtain⟨C',uF,_⟩:=sS.tD.row j q hj
  have:=fb (B:=⟨w1.heap.size,1,0,none⟩) jG j C' uF
  have e:=this.symm.trans hC
  injection e with e;rw[<-e];exact uF
 have lt:∀{j q C},σ1.get j=some q->ι1 j=some C->C.b<w1.heap.size:=fun {j q C} hj hC=>by
  obtain⟨C',uF,R',_⟩:=sS.tD.row j q hj
  rw[hC]at uF;injection uF with uF;subst uF
  exact R'.lt
 have Oi:∀{j q},bt σ1.get id {r with w:=false} j=some q->∃q0,σ1.get j=some q0/\(q.w=true->q=q0/\j≠id)/\(j=id->q={r with w:=false}/\q0=r)/\(j≠id->q=q0):=fun {j q} h=>by
  unfold bt at h
  split at h
  ·rename_i e
   injection h with h;subst h
   exact⟨r,e▸hg,fun h=>(by cases h),fun _=>⟨rfl,rfl⟩,fun hc=>absurd e hc⟩
  ·rename_i e
   exact⟨q,h,fun _=>⟨rfl,e⟩,fun hc=>absurd hc e,fun _=>rfl⟩
 have S2:gz P hs D2 ι2 (bt σ1.get id {r with w:=false}) w2:=by
  refine⟨by rw[hz];exact Nat.le_succ_of_le sS.tD.lo,fun b hb=>?_,fun j q h=>?_,fun j j' q q' C C' h h' Ji hC uF he=>?_⟩
  ·rw[hz]
   rcases hb with hb|rfl|rfl
   ·exact Nat.lt_succ_of_lt (sS.tD.dead b hb)
   ·exact Nat.lt_succ_of_lt SM
   ·exact Nat.lt_succ_self _
  ·obtain⟨q0,Nk,Ji,Ac,gZ⟩:=Oi h
   obtain⟨C,hC,RC,k1,k2⟩:=sS.tD.row j q0 Nk
   have hCl:=lt Nk hC
   refine⟨C,fb jG j C hC,?_,fun Qv=>k1 ((Ji Qv).1▸Qv),fun Qv hD=>?_⟩
   ·have RF:gO P w2 D2 ι2 C q0:=RC.frame (hblk _ hCl) fun a v h=>Tr h
    by_cases hj:j=id
    ·obtain⟨e1,e2⟩:=Ac hj
     rw[e1,<-e2];exact RF.flag false
    ·rw[gZ hj];exact RF
   ·obtain⟨e1,e2⟩:=Ji Qv
    rcases hD with hD|hD|hD
    ·exact k2 (e1▸Qv) hD
    ·exact e2 (sS.tD.inj j id q0 r C B Nk hg (e1▸Qv) hC hB hD)
    ·omega
  ·obtain⟨q0,Nk,Vl,_⟩:=Oi h
   obtain⟨q0',RD,_⟩:=Oi h'
   exact sS.tD.inj j j' q0 q0' C C' Nk RD ((Vl Ji).1▸Ji) (zf Nk hC) (zf RD uF) he
 have T2:Step hs D1 ι1 w1 D2 ι2 w2:=⟨⟨x8.1,x8.2.1,x8.2.2,by omega,fun k hk=>hblk k (Nat.lt_of_lt_of_le hk sS.tD.lo)⟩,fun b hb=>hblk b (sS.tD.dead b hb),fun _ h=>.inl h,fb jG,fun b hb=>by
  rcases hb with hb|rfl|rfl
  ·exact .inl hb
  ·exact .inr (kq hw)
  ·exact .inr sS.tD.lo⟩
 have E2:cr P w2 D2 ι2 (upd jl (some it) (.ptr ⟨site,σ1.next⟩ 0 0)) (a1.put (some it) (.pointer (some ⟨w1.heap.size,0,none⟩))):=
  iz (fun t=>Tr (sS.env t)) (by have:=cI.ptr (P:=P) (w:=w2) (D:=D2) (ι:=ι2) ⟨site,σ1.next⟩ 0 0 ⟨w1.heap.size,1,0,none⟩ (dY _ _ _) rfl;simpa using this) (fun d h=>by cases h;exact dU) sS.size
 have L2:MZ P w2 D2 ι2 m (leftOf es #[]).toList r.rows:=by
  have he:(leftOf es #[]).toList=es.toList:=by simp[leftOf]
  rw[he]
  refine⟨by simpa using fo.symm,fun i cs hi=>?_⟩
  obtain⟨QW,kv,vv,q1,q2,q3,q4,q5⟩:=hM i cs hi
  exact⟨QW,kv,vv,by simpa using q1,q2,q3,Tr q4,Tr q5⟩
 show A6 P (.block b (.loop (Ka ix ie b b1 ok Ek Hd Ej se nK))) Q' _ w2
 exact tt (Cz (r.rows.length+1) (Ev hm O GK (ds:=a.defers) (n0:=σ.next) (D0:=D) (ι0:=ι) (w0:=w) hQ
  (fun hc=>by have:=dH.tD.dead _ hc;have:=T.below.size;omega) sS.tD.lo (by omega) r.rows.length r.rows _ ⟨bt σ1.get id {r with w:=false},σ1.next+1⟩ _ w2 D2 ι2 #[] hr
  ⟨S2,sS.used.upd.next,E2,by rw[eW];exact sS.size⟩ (by rw[put_defers];exact ve) (Nat.le_succ_of_le GH) (T.trans T2) ⟨1,0,dY _ _ _⟩ (.inr (.inr rfl)) (.inr (.inl rfl)) kr ((hblk _ SM).trans hb) rfl L2))
theorem CS.fn {f:Nat} {fn:Func} {c:Code} {args:List AV} {σ:ar} {K:AV->ar->Prop} {vr:List nT} {W:(Ex->Env->ar->Prop)->Env->ar->Prop} (Qi:P.funcs[f]? =some fn) (hc:fn.body=some c) (hr:fn.results.toList.mapM (Dt P)=some vr) (ha:fn.params.size+fn.nfree=args.length) (hle:fn.params.size+fn.nfree<=fn.ntmps)
  (h:CS P fn.ntmps c W) (hv:W (kJ vr K) (cC args) σ):Call P f args σ K:=
 gP (vQ Qi hc hr ha hle fun hs w D ι a Q' dH hQ=>h hs (kJ vr K) (cC args) σ a w D ι Q' hv dH hQ)
theorem sK (hm:P.follows .mixedOrders=true) {c:VC} {Q Q':Ex->Env->ar->Prop} {env:Env} {σ:ar} (hQ:∀x e s,Q x e s->Q' x e s) (h:dI (Call P) c Q env σ):dI (Sound P) c Q' env σ:=
 jE (fun _ _ _ _ h=>gr hm h) kP c Q Q' env σ hQ h
theorem zp {m:MK} {it nx ok en:Nat} {id:Id} {B B':(Ex->Env->ar->Prop)->Env->ar->Prop} {b b1:Nat} {Q Q':Ex->Env->ar->Prop} (hB:∀R R' e s,(∀x e s,R x e s->R' x e s)->B R e s->B' R' e s) (hQ:∀x e s,Q x e s->Q' x e s):
  ∀(n:Nat) (left:List (List AV)) (env:Env) (σ:ar),CH m it nx ok en id B b b1 Q n left env σ->CH m it nx ok en id B' b b1 Q' n left env σ
 |0,_,env,σ,h=>⟨h.1,hQ _ _ _ h.2⟩
 |n+1,left,env,σ,h=>⟨h.1,fun i cs kv vv h1 h2 h3=>hB _ _ _ _ (fun x e s hx=>by
  have hn:=zp (id:=id) (m:=m) (it:=it) (nx:=nx) (ok:=ok) (en:=en) (b:=b) (b1:=b1) hB hQ n (left.eraseIdx i) e s
  cases x with
  |normal=>exact hn hx
  |ret=>exact hQ _ _ _ hx
  |exit j6=>
   simp only[bc]at hx ⊢
   split at hx
   ·rename_i h1;rw[if_pos h1];exact hn hx
   ·rename_i h1
    rw[if_neg h1]
    simp only[dn,bc]at hx ⊢
    split at hx
    ·rename_i h2;rw[if_pos h2];exact hQ _ _ _ hx
    ·rename_i h2;rw[if_neg h2];exact hQ _ _ _ hx) (h.2 i cs kv vv h1 h2 h3)⟩
theorem Ho (hm:P.follows .mixedOrders=true) {m:MK} {tm:O} {site it nx ok en:Nat} {c:VC} {b b1:Nat} {Q Q':Ex->Env->ar->Prop} {env:Env} {σ:ar} (hQ:∀x e s,Q x e s->Q' x e s) (h:Hn m tm site it nx ok en (dI (Call P) c) b b1 Q env σ):Hn m tm site it nx ok en (dI (Sound P) c) b b1 Q' env σ:=by
 obtain⟨id,r,h1,h2,h3,h4⟩:=h
 exact⟨id,r,h1,h2,h3,zp (B':=dI (Sound P) c) (fun R R' e s hR hb=>sK hm hR hb) hQ _ _ _ _ h4⟩
theorem xb {α:Type}:∀{l:List α} {i:Nat} {x:α},l[i]? =some x->(x::l.eraseIdx i).Perm l
 |y::l,0,x,h=>by simp at h;subst h;exact List.Perm.refl _
 |y::l,i+1,x,h=>by
  simp only[List.getElem?_cons_succ]at h
  rw[List.eraseIdx_cons_succ]
  exact(List.Perm.swap _ _ _).trans ((xb h).cons _)
theorem Sp {m:MK} {tm:O} {site it nx ok en:Nat} {c:VC} {b b1:Nat} {Q:Ex->Env->ar->Prop} {env:Env} {σ:ar} {id:Id} {r:Row} (I:List (List AV)->Env->ar->Prop) (h1:cQ env tm=.map id m) (h2:σ.get id=some r) (h3:r.w=true) (LM:([nx,ok,en]++yn c).contains it=false)
  (h0:I [] (upd env (some it) (.ptr ⟨site,σ.next⟩ 0 0)) ⟨bt σ.get id {r with w:=false},σ.next+1⟩)
  (step:∀pre cs rest e s kv vv,(pre++cs::rest).Perm r.rows->I pre e s->gH ([nx,ok,en]++yn c) (upd env (some it) (.ptr ⟨site,σ.next⟩ 0 0)) e->part m.ka m.ks cs=some kv->cs[m.ks]? =some vv->
   dI (Call P) c (bc b1 (dn (I (pre++[cs])) (bc b Q))) (upd (upd (upd e (some nx) (.gD [.bool true,kv,vv])) (some ok) (.bool true)) (some en) (.gD [kv,vv])) ⟨s.get,s.next+1⟩)
  (fin:∀pre e s,pre.Perm r.rows->I pre e s->gH ([nx,ok,en]++yn c) (upd env (some it) (.ptr ⟨site,σ.next⟩ 0 0)) e->Q .normal (upd (upd e (some nx) (.gD [.bool false])) (some ok) (.bool false)) ⟨s.get,s.next+1⟩):
  Hn m tm site it nx ok en (dI (Call P) c) b b1 Q env σ:=by
 refine⟨id,r,h1,h2,h3,?_⟩
 have Ri:∀e,gH ([nx,ok,en]++yn c) (upd env (some it) (.ptr ⟨site,σ.next⟩ 0 0)) e->e it=.ptr ⟨site,σ.next⟩ 0 0:=fun e h=>by
  rw[h it LM];simp[upd]
 have key:∀n left pre e s,(pre++left).Perm r.rows->left.length=n->I pre e s->gH ([nx,ok,en]++yn c) (upd env (some it) (.ptr ⟨site,σ.next⟩ 0 0)) e->CH m it nx ok en ⟨site,σ.next⟩ (dI (Call P) c) b b1 Q n left e s:=by
  intro n
  induction n with
  |zero=>
   intro left pre e s hp hl hI hK
   have:left=[]:=List.eq_nil_of_length_eq_zero hl
   subst this
   rw[List.append_nil]at hp
   exact⟨Ri e hK,fin pre e s hp hI hK⟩
  |succ n ih=>
   intro left pre e s hp hl hI hK
   refine⟨Ri e hK,fun i cs kv vv hi hk hv=>?_⟩
   have lK:=(List.getElem?_eq_some_iff.1 hi).1
   have Fz:(cs::left.eraseIdx i).Perm left:=by
    exact xb hi
   have Je:(pre++cs::left.eraseIdx i).Perm r.rows:=(Fz.append_left pre).trans hp
   have OB:gH ([nx,ok,en]++yn c) (upd env (some it) (.ptr ⟨site,σ.next⟩ 0 0)) (upd (upd (upd e (some nx) (.gD [.bool true,kv,vv])) (some ok) (.bool true)) (some en) (.gD [kv,vv])):=
    ((hK.upd (fun t h=>by cases h;simp)).upd (fun t h=>by cases h;simp)).upd (fun t h=>by cases h;simp)
   refine jE (fun _ _ _ _ h=>h) aC c _ _ _ _ (fun x e' s' hx=>?_) (zy c _ _ _ (fun t ht=>List.mem_append_right _ ht) OB (step pre cs (left.eraseIdx i) e s kv vv Je hI hK hk hv))
   obtain⟨hx,GG⟩:=hx
   have um:I (pre++[cs]) e' s'->CH m it nx ok en ⟨site,σ.next⟩ (dI (Call P) c) b b1 Q n (left.eraseIdx i) e' s':=fun Un=>
    ih (left.eraseIdx i) (pre++[cs]) e' s' (by rw[List.append_assoc];exact Je) (by rw[List.length_eraseIdx,if_pos lK];omega) Un GG
   cases x with
   |normal=>exact um hx
   |ret=>exact hx
   |exit j6=>
    simp only[bc]at hx ⊢
    split at hx
    ·rename_i h1;rw[if_pos h1];exact um hx
    ·rename_i h1;rw[if_neg h1];exact hx
 exact key _ r.rows [] _ _ (List.Perm.refl _) rfl h0 (gH.refl _ _)
end Go.Proofs.YtgoljkjaameagaaGreat.V

namespace Go.Proofs.YtgoljkjaameagaaGreat.V
open Go.RowKit
def NG:Code->Code
 | .seq a _=>a
 |c=>c
def HY:Code->Code
 | .seq _ b=>b
 |c=>c
def TI:Code->Code
 | .block _ c=>c
 |c=>c
def VG:Code->Code
 | .loop c=>c
 |c=>c
def SE:Code->List Oper
 | .region _ o _=>o.toList
 |_=>[]
def rg2 (k:Code):Code:=NG (NG (HY (HY k)))
def VB (k:Code):Code:=HY (NG (HY (HY k)))
def rgL (k:Code):Code:=VG (TI (VB k))
def Pw (k:Code):Code:=HY (HY (rgL k))
def P7:Oper:={dst:=none,op:=.nilCheck (.tmp 0),type:=0,pos:= "",after:= #[],guard:=none}
def rgP (k:Code):List Oper:=(SE (rg2 k)).dropLast
def rgO (k:Code):Oper:=(SE (rg2 k)).getLastD P7
def TC (k:Code) (i:Nat):Oper:=(SE (NG (rgL k))).getD i P7
def Sh (k:Code):Oper:=(SE (NG (TI (Pw k)))).headD P7
def Si (k:Code):List Oper:=(SE (NG (TI (Pw k)))).tail
def rgR (k:Code):Code:=HY (TI (Pw k))
def Sj (P:Program) (v0 v1:VC) (vA:List bq) (m:MK) (tm:O) (site it nx ok en:Nat) (vE:List bq) (vR:VC) (b b1:Nat) (vT:VC) (Q:Ex->Env->ar->Prop):Env->ar->Prop:=
 dI (Sound P) v0 (dn (dI (Sound P) v1 (dn (wpOps (Sound P) false vA (Hn m tm site it nx ok en (dI (Sound P) (.seq (.eJ false vE) vR)) b b1 (dn (dI (Sound P) vT Q) Q))) Q)) Q)
def Px (P:Program) (v0 v1:VC) (vA:List bq) (m:MK) (tm:O) (site it nx ok en:Nat) (vE:List bq) (vR:VC) (b b1:Nat) (vT:VC) (Q:Ex->Env->ar->Prop):Env->ar->Prop:=
 dI (Call P) v0 (dn (dI (Call P) v1 (dn (wpOps (Call P) false vA (Hn m tm site it nx ok en (dI (Call P) (.seq (.eJ false vE) vR)) b b1 (dn (dI (Call P) vT Q) Q))) Q)) Q)
theorem xp {F F':Env->ar->Prop} {Q:Ex->Env->ar->Prop} (h:∀e s,F e s->F' e s):∀x e s,dn F Q x e s->dn F' Q x e s:=fun x e s hx=>by
 cases x with
 |normal=>exact h e s hx
 |ret=>exact hx
 |exit id=>exact hx
theorem Kb {P:Program} (hm:P.follows .mixedOrders=true) {v0 v1:VC} {vA:List bq} {m:MK} {tm:O} {site it nx ok en:Nat} {vE:List bq} {vR:VC} {b b1:Nat} {vT:VC} {Q:Ex->Env->ar->Prop} {env:Env} {σ:ar}
  (h:Px P v0 v1 vA m tm site it nx ok en vE vR b b1 vT Q env σ):Sj P v0 v1 vA m tm site it nx ok en vE vR b b1 vT Q env σ:=
 sK hm (xp fun _ _ h=>sK hm (xp fun _ _ h=>lp (fun _ _ _ _ h=>gr hm h) kP (fun _ _ h=>Ho hm (xp fun _ _ h=>sK hm (fun _ _ _ h=>h) h) h) _ _ _ h) h) h
noncomputable def oX:Go.Code:=Tryz.f101.body.getD .skip
def EV:VC:=(.eJ false [⟨(some 2),(.new [.bl]),none,101000000,[]⟩])
def KE:VC:=(.eJ false [⟨(some 3),(.dm (.k .bl)),none,101001000,[]⟩])
def KF:List bq:=[⟨(some 6),(.dm (.t 0)),none,101002000,[]⟩,⟨(some 7),(.A8 (.t 6)),none,101002001,[]⟩,⟨(some 8),(.fU 4 (.t 7)),none,101002002,[]⟩,⟨(some 9),(.load false 1 (.t 8)),none,101002003,[]⟩]
def AQ:List bq:=[⟨(some 14),(.extract 0 (.t 13)),none,101004001,[]⟩,⟨(some 15),(.extract 1 (.t 13)),none,101004002,[]⟩,⟨(some 4),(.new [(.int .i64 0),(.int .i64 0)]),none,101004003,[]⟩,⟨none,(.store 2 (.t 4) (.t 14)),none,101004004,[]⟩,⟨(some 5),(.dm (.t 15)),none,101004005,[]⟩]
def AR:VC:=(.eJ false [⟨(some 16),(.dm (.t 3)),none,101005000,[]⟩,⟨(some 17),(.load true 2 (.t 4)),none,101005001,[]⟩,⟨(some 18),(.dm (.t 5)),none,101005002,[]⟩,⟨(some 19),(.build [(.int .i64 0),(.int .i64 0),(.int .i64 0)] [(0,(2,(.t 17))),(2,(1,(.t 18)))]),none,101005003,[]⟩,⟨(some 20),(.l5 3 1 [(.t 19)]),none,101005004,[]⟩,⟨(some 21),(.append 3 (.t 16) (.t 20)),none,101005005,[]⟩,⟨(some 3),(.dm (.t 21)),none,101005006,[]⟩])
def AS:VC:=(.seq (.eJ false [⟨(some 22),(.dm (.t 3)),none,101006000,[]⟩,⟨(some 23),(.call 118 [(.t 22)]),none,101006001,[]⟩,⟨none,(.store 1 (.t 2) (.t 23)),none,101006002,[]⟩]) .ret)
def AW:List nT:=[(.cell true 1 2)]
def EN:O:=(.t 9)
theorem Pp:Ia Tryz.prog [] Tryz.f101.ntmps 101 101004000 10 11 12 13 (TC oX 0) (TC oX 1) (Sh oX) (Si oX) (rgR oX) AQ AR:=⟨by kernel_rfl,by kernel_rfl,by kernel_rfl,by kernel_rfl,by kernel_rfl,by kernel_rfl,by kernel_rfl,by kernel_rfl,by kernel_rfl,by decide,by decide,by decide,by decide,by decide,by kernel_rfl,by kernel_rfl⟩
theorem Pz:oX=.seq (NG oX) (.seq (NG (HY oX)) (.seq (.seq (.region 2 (rgP oX++[rgO oX]).toArray false) (.block 0 (.loop (Ka 3 4 0 1 12 (TC oX 0) (TC oX 1) (Sh oX) (Si oX) (rgR oX))))) (HY (HY (HY oX))))):=by kernel_rfl
theorem N1 (m:MK):CS Tryz.prog Tryz.f101.ntmps oX (Sj Tryz.prog EV KE KF m EN 101002999 10 11 12 13 AQ AR 0 1 AS):=by
 rw[Pz]
 exact CS.seq (CS.code (md:=[]) (fid:=101) mixed (by kernel_rfl)) (CS.seq (CS.code (md:=[]) (fid:=101) mixed (by kernel_rfl)) (CS.seq (CS.rng (tm:=.tmp 9) (sA:=101002000) (t:=148) (k:=123) (e:=2) mixed Pp (by kernel_rfl) (by kernel_rfl) (by kernel_rfl) (by decide) (by kernel_rfl) (by kernel_rfl) (by kernel_rfl)) (CS.code (md:=[]) (fid:=101) mixed (by kernel_rfl))))
theorem Pv {args:List AV} {σ:ar} {K:AV->ar->Prop} (ha:args.length=Tryz.f101.params.size) (m:MK) (h:Px Tryz.prog EV KE KF m EN 101002999 10 11 12 13 AQ AR 0 1 AS (kJ AW K) (cC args) σ):Call Tryz.prog 101 args σ K:=
 CS.fn Tryz.func101 (by kernel_rfl) (by kernel_rfl) ha.symm (by decide) (N1 m) (Kb mixed h)
end Go.Proofs.YtgoljkjaameagaaGreat.V

namespace Go.Proofs.YtgoljkjaameagaaGreat.V
open Go.RowKit
attribute [local irreducible] dI wpOps gy Call
attribute [local go_sem] aM fG eQ fZ fY cQ upd cC K.av cP AV.cells AV.cell rowOf rowsOf part ld rowAt bt cu dE ee ik bJ dh ew fX eX dp ej dd dc dQ dR bQ bf cW bP cY cX eh ek ei cV b4 de ef bK aP da cG ij bw cK bU aY dn bc dF AV.undef bF bI dS ec dM dK cH ev eA cF ep eo cZ db List.getD_cons_zero List.getD_cons_succ List.getD_nil List.all_cons List.all_nil Bool.and_true Bool.true_and Bool.and_self Bool.not_true Bool.not_false Option.map_some Option.map_none Option.bind_some Option.bind_none List.length_cons List.length_nil List.take_succ_cons List.take_zero List.take_nil List.drop_succ_cons List.drop_zero List.drop_nil List.head?_cons List.map_cons List.map_nil List.getElem?_cons_zero List.getElem?_cons_succ List.cons_append List.nil_append List.append_nil List.length_map List.set_cons_zero List.set_cons_succ Nat.reduceMul eq_self Int.toNat_natCast Int.natCast_nonneg and_self true_and and_true decide_true decide_false Bool.false_eq_true Nat.zero_add Nat.add_zero List.contains_cons List.contains_nil Bool.or_false Bool.false_or beq_self_eq_true Nat.reduceBEq ne_eq not_true_eq_false not_false_eq_true Id.mk.injEq false_and and_false Nat.reduceLT Int.reduceLE Int.reduceLT Int.reduceToNat Int.reduceNeg Int.reduceAdd Nat.le_refl List.length_append beq_true beq_false Bool.not_eq_eq_eq_not or_false false_or dJ ai aj aD bp bE cq aT bd aX bj cR bG
theorem zo:∀{ps qs:List ad},(ps.Pairwise fun a b=>jR a.aO b.aO=true)->(qs.Pairwise fun a b=>jR a.aO b.aO=true)->(∀x,x∈ps↔x∈qs)->ps=qs
 |[],[],_,_,_=>rfl
 |[],q::qs,_,_,h=>absurd ((h q).2 (by simp)) (by simp)
 |p::ps,[],_,_,h=>absurd ((h p).1 (by simp)) (by simp)
 |p::ps,q::qs,hp,hq,h=>by
  obtain⟨p1,p2⟩:=List.pairwise_cons.1 hp
  obtain⟨q1,q2⟩:=List.pairwise_cons.1 hq
  have e:p=q:=by
   rcases List.mem_cons.1 ((h p).1 (by simp))with e|e
   ·exact e
   ·rcases List.mem_cons.1 ((h q).2 (by simp))with e'|e'
    ·exact e'.symm
    ·have:=JG (q1 p e)
     rw[p1 q e']at this;cases this
  subst e
  congr 1
  refine zo p2 q2 fun x=>⟨fun hx=>?_,fun hx=>?_⟩
  ·rcases List.mem_cons.1 ((h x).1 (List.mem_cons_of_mem _ hx))with e|e
   ·subst e;have:=p1 x hx;rw[ns]at this;cases this
   ·exact e
  ·rcases List.mem_cons.1 ((h x).2 (List.mem_cons_of_mem _ hx))with e|e
   ·subst e;have:=q1 x hx;rw[ns]at this;cases this
   ·exact e
theorem EE {L qs:List ad} (hR:nS L) (hp:qs.Perm L) (hs:∀i j:Nat,i<j->j<qs.length->jR (aJ qs j).aO (aJ qs i).aO=false):qs=L:=by
 rw[sg]at hR
 have hd:L.Pairwise fun a b=>a.aO≠b.aO:=hR.imp fun {a b} h e=>by rw[e,ns]at h;cases h
 have hdq:qs.Pairwise fun a b=>a.aO≠b.aO:=hp.symm.pairwise hd fun {a b} h e=>h e.symm
 refine zo ?_ hR fun x=>hp.mem_iff
 rw[List.pairwise_iff_getElem]at hdq ⊢
 intro i j hi hj DR
 have h1:=hs i j DR hj
 rw[fh hj,fh hi]at h1
 exact FN h1 fun e=>hdq i j hi hj DR e.symm
theorem Du (ps:List ad) (h0:ps≠[]) (hlen:ps.length<=1048576) (σ:ar) (id:Id) (hv:id.ck<σ.next) (hg:σ.get id=some ⟨true,3,ps.map aa⟩):
  Call Tryz.prog 166 [.own id 0 ps.length] σ fun a σ'=>∃o:Id,a=.own o 0 ps.length/\σ'.get o=some ⟨true,3,ps.map aa⟩/\σ.next<=o.ck/\o.ck<σ'.next/\∀x:Id,x.ck<σ.next->σ'.get x=σ.get x:=by
 refine eL dX rfl fun hl=>?_
 clear hl
 have h2:ps.length<=16777216:=by omega
 have hm:(ps.map aa).length=ps.length:=by simp
 have v1:=dr hv
 have ht:(ps.map aa).take ps.length=ps.map aa:=by rw[<-hm,List.take_length]
 have ha:(ps.map aa).all (fun c=>c.length==3&&c.all AV.cell)=true:=all_map fun x=>by simp[aa,AV.cell]
 (try((repeat(revert hN;revert N;apply Pn.out));refine wk (tw @hg (tw @h2 (tw @hm (tw @v1 (tw @ht @ha))))) ?_;(repeat(refine Pn.mk ?_;intro N hN))))
 exact e9 (vs:=[.own ⟨166003002,σ.next+2⟩ 0 ps.length]) (.inl rfl) (sd @Nat.zero_add) ⟨_,rfl,sd @Nat.zero_add,by(try dsimp only);omega,by(try dsimp only);omega,fun x hx=>by
  have:=dr hx
  simp only[go_sem, ↓reduceIte,Nat.reduceEqDiff,Nat.reduceAdd,Nat.reduceSub,Nat.reduceLeDiff,reduceCtorEq,this]⟩
theorem zI (ps L:List ad) (hlen:ps.length<=1000000) (h0:ps≠[]) (hR:nS L) (hp:ps.Perm L) (σ:ar) (id:Id) (hv:id.ck<σ.next) (hg:σ.get id=some ⟨true,3,ps.map aa⟩):
  Call Tryz.prog 118 [.own id 0 ps.length] σ fun a σ'=>∃o:Id,a=.agg [.own o 0 L.length]/\σ'.get o=some ⟨true,3,L.map aa⟩/\σ.next<=o.ck/\o.ck<σ'.next/\∀x:Id,x.ck<σ.next->σ'.get x=σ.get x:=by
 refine eL dX rfl fun hl=>?_
 clear hl
 have v1:=dr hv
 (try((repeat(revert hN;revert N;apply Pn.out));refine wk (tw @hg @v1) ?_;(repeat(refine Pn.mk ?_;intro N hN))))
 refine .inr (aC _ _ _ _ _ (fun r σ1 hq=>?_) (Du ps h0 (by omega) ⟨_,_⟩ id (by(try dsimp only);omega) (sd (tw @v1 @hg))))
 obtain⟨g1,x1⟩:=σ1
 obtain⟨o,rfl,q1,q2,q3,q4⟩:=hq
 (try dsimp only at q1 q2 q3 q4)
 have k2:=q4 ⟨118000000,σ.next⟩ (by(try dsimp only);omega)
 simp only[go_sem, ↓reduceIte,Nat.reduceEqDiff,Nat.reduceAdd,Nat.reduceSub,Nat.reduceLeDiff,reduceCtorEq]at k2
 refine hN _ _ ?_
 clear hN N
 (try((repeat(revert hN;revert N;apply Pn.out));refine wk @Nat.zero_add ?_;(repeat(refine Pn.mk ?_;intro N hN))))
 refine .inr (aC _ _ _ _ _ (fun r σ2 hq=>?_) (Hr PE PF ps (by omega) ⟨g1,_⟩ o q1))
 obtain⟨g2,x2⟩:=σ2
 obtain⟨u1,u2,ss,u3,u4,u5,u6⟩:=hq
 (try dsimp only at u1 u2 u3)
 have hss:ss=L:=EE hR (u5.trans hp) u6
 rw[hss]at u3 u4
 have o2:(⟨118000000,σ.next⟩:Id)≠o:=fun e=>by rw[<-e]at q2;(try dsimp only at q2);omega
 have k3:=(u2 _ o2).trans k2
 have of:=eq_false (fun e:o=(⟨118000000,σ.next⟩:Id)=>o2 e.symm)
 refine hN _ _ ?_
 clear hN N
 (try((repeat(revert hN;revert N;apply Pn.out));refine wk @k3 ?_;(repeat(refine Pn.mk ?_;intro N hN))))
 exact e9 (.inl rfl) (vs:=[.agg [.own o 0 ps.length]]) (sd @Nat.zero_add) ⟨o,by rw[u4];rfl,sd (tw @of @u3),by omega,by(try dsimp only);omega,fun x hx=>by
  have h1:x≠o:=fun e=>by rw[e]at hx;omega
  have h2:=u2 x h1
  have h3:=q4 x (by(try dsimp only);omega)
  have h4:=dr hx
  simp only[go_sem, ↓reduceIte,Nat.reduceEqDiff,Nat.reduceAdd,Nat.reduceSub,Nat.reduceLeDiff,reduceCtorEq,h4]at h3
  simp only[go_sem, ↓reduceIte,Nat.reduceEqDiff,Nat.reduceAdd,Nat.reduceSub,Nat.reduceLeDiff,reduceCtorEq,h4,h2,h3]⟩
def AsI (σ:ar) (T:Id) (ts:List ad) (pre:List (List AV)) (e0:Env) (s0:ar):Prop:=
 ∃l':List ad,pre=l'.map aa/\((l'=[]/\e0 3=.bl)∨∃o:Id,e0 3=.own o 0 l'.length/\s0.get o=some ⟨true,3,l'.map aa⟩/\σ.next<o.ck/\o.ck<s0.next)/\σ.next<s0.next/\(∀x:Id,x.ck<σ.next->x≠T->s0.get x=σ.get x)/\s0.get T=some ⟨false,mP.pQ,ts.map aa⟩/\s0.get ⟨101000000,σ.next⟩=some ⟨true,1,[[.bl]]⟩/\e0 2=.ptr ⟨101000000,σ.next⟩ 0 0
theorem G2 (L:List ad) (x:ad):(L++[x]).length=L.length+1:=by rw[List.length_append];rfl
theorem Dl {σ:ar} {c T O:Id} {s:az} {ts L:List ad} (h:lY σ.get σ.next c T O s ts) (hlen:ts.length<=100000) (h0:ts≠[]) (hR:nS L) (hp:ts.Perm L):
  Call Tryz.prog 101 [.ptr c 0 0] σ (fun r σ'=>∃o:Id,r=.agg [.own o 0 L.length]/\σ'.get o=some ⟨true,3,L.map aa⟩/\σ.next<=o.ck/\o.ck<σ'.next/\σ.next<=σ'.next/\∀x:Id,x.ck<σ.next->x≠T->σ'.get x=σ.get x):=by
 refine Pv rfl mP ?_
 have fS:=h.row
 have O8:=h.tl
 have v1:=dr h.cv
 have v2:=dr h.tv
 unfold Px
 rw[EV]
 (try((repeat(revert hN;revert N;apply Pn.out));refine wk (tw @fS @v1) ?_;(repeat(refine Pn.mk ?_;intro N hN))))
 refine C0 (Sp (id:=T) (r:=⟨true,mP.pQ,ts.map aa⟩) (AsI σ T ts) (sd @EN.eq_1) (sd (tw @O8 @v2)) rfl (by decide) ?_ ?_ ?_)
 ·have vT:(T=(⟨101000000,σ.next⟩:Id))=False:=eq_false fun e=>by have:=h.tv;rw[e]at this;(try dsimp only at this);omega
  have vT2:((⟨101000000,σ.next⟩:Id)=T)=False:=eq_false fun e=>by have:=h.tv;rw[<-e]at this;(try dsimp only at this);omega
  exact⟨[],rfl,.inl ⟨rfl,sd @Nat.zero_add⟩,by(try dsimp only);omega,fun x hx hT=>by
   have h1:=dr hx
   have h2:=eq_false hT
   simp only[go_sem, ↓reduceIte,Nat.reduceEqDiff,Nat.reduceAdd,Nat.reduceSub,Nat.reduceLeDiff,reduceCtorEq,h1,h2],sd @Nat.zero_add,sd @vT2,sd @Nat.zero_add⟩
 ·rintro pre cs rest e0 s0 kv vv hpp ⟨l',rfl,hout,HR,jG,hT,h5,e2⟩ hK hpart hvv
  have tf:cs∈ts.map aa:=hpp.subset (by simp)
  obtain⟨tl,hx,rfl⟩:=List.mem_map.1 tf
  have Fy:=hpp.length_eq
  simp only[List.length_append,List.length_map,List.length_cons]at Fy
  simp[part,aa,MK.ks]at hpart hvv
  subst hpart hvv
  rw[AQ,AR]
  have SZ:=h.tv
  have vT:=dr (i:=T) (n:=s0.next) (by omega)
  have v5:=dr (i:=⟨101000000,σ.next⟩) (n:=s0.next) (by(try dsimp only);omega)
  clear hpp tf hK
  have hm1:l'.map aa++[aa tl]=(l'++[tl]).map aa:=by simp
  have x7:=G2 l' tl
  have rU:(l'++[tl]).map aa=l'.map aa++[[.int .i64 tl.aO.eZ,.int .i64 tl.aO.eU,.int .i64 tl.aV]]:=by rw[List.map_append];rfl
  rcases hout with⟨Ni,e3⟩|⟨o,e3,og,on,ov⟩
  ·subst Ni
   (try((repeat(revert hN;revert N;apply Pn.out));refine wk (tw @e3 @e2) ?_;(repeat(refine Pn.mk ?_;intro N hN))))
   exact⟨[]++[tl],hm1,.inr ⟨⟨101005005,s0.next+1+1⟩,sl @Nat.zero_add,sl @Nat.zero_add,by(try dsimp only);omega,by(try dsimp only);omega⟩,by(try dsimp only);omega,fun y hy RW=>by
    have h1:=dr (i:=y) (n:=s0.next) (by omega)
    have h2:=jG y hy RW
    simp only[go_sem, ↓reduceIte,Nat.reduceEqDiff,Nat.reduceAdd,Nat.reduceSub,Nat.reduceLeDiff,reduceCtorEq,h1,h2],sd (tw @vT @hT),sd (tw @v5 @h5),sd @e2⟩
  ·have vo:=dr ov
   have oT:=cz (a:=T) (b:=o) (by omega)
   have o5:=cz (a:=⟨101000000,σ.next⟩) (b:=o) (by(try dsimp only);omega)
   have lL:(l'.map aa).length=l'.length:=by simp
   have e1:l'.length<=16777215:=by omega
   (try((repeat(revert hN;revert N;apply Pn.out));refine wk (tw @e3 (tw @e2 (tw @og (tw @vo (tw @lL @e1))))) ?_;(repeat(refine Pn.mk ?_;intro N hN))))
   exact⟨l'++[tl],hm1,.inr ⟨⟨101005005,s0.next+1+1⟩,by rw[x7];simp only[go_sem, ↓reduceIte,Nat.reduceEqDiff,Nat.reduceAdd,Nat.reduceSub,Nat.reduceLeDiff,reduceCtorEq]<;>rfl,by rw[rU];simp only[go_sem, ↓reduceIte,Nat.reduceEqDiff,Nat.reduceAdd,Nat.reduceSub,Nat.reduceLeDiff,reduceCtorEq]<;>rfl,by(try dsimp only);omega,by(try dsimp only);omega⟩,by(try dsimp only);omega,fun y hy RW=>by
    have h1:=dr (i:=y) (n:=s0.next) (by omega)
    have h2:=jG y hy RW
    have h3:=cz (a:=y) (b:=o) (by omega)
    simp only[go_sem, ↓reduceIte,Nat.reduceEqDiff,Nat.reduceAdd,Nat.reduceSub,Nat.reduceLeDiff,reduceCtorEq,h1,h2,h3],sd (tw @vT (tw @oT @hT)),sd (tw @v5 (tw @o5 @h5)),sd @e2⟩
 ·rintro pre e0 s0 hpp ⟨l',rfl,hout,HR,jG,hT,h5,e2⟩ hK
  clear hK
  have mi:l'.Perm ts:=by
   have:∀{a b:List ad},(a.map aa).Perm (b.map aa)->a.Perm b:=fun {a b} qM=>by
    have h2:=qM.map (fun cs:List AV=>match cs with|[.int _ x,.int _ y,.int _ t]=>(⟨⟨x,y⟩,t⟩:ad)|_=>default)
    simpa[List.map_map,Function.comp_def,aa]using h2
   exact this hpp
  have UU:=mi.length_eq
  rcases hout with⟨Ni,e3⟩|⟨o,e3,og,on,ov⟩
  ·exfalso
   subst Ni
   exact h0 (List.eq_nil_of_length_eq_zero UU.symm)
  have gZ:l'≠[]:=fun e=>h0 (List.eq_nil_of_length_eq_zero (by rw[<-UU,e];rfl))
  (try((repeat(revert hN;revert N;apply Pn.out));refine wk (tw @AS.eq_1 (tw @AW.eq_1 (tw @e3 @e2))) ?_;(repeat(refine Pn.mk ?_;intro N hN))))
  refine .inr (aC _ _ _ _ _ (fun r σ1 hq=>?_) (zI l' L (by omega) gZ hR (mi.trans hp) ⟨s0.get,_⟩ o (by(try dsimp only);omega) og))
  obtain⟨g1,x1⟩:=σ1
  obtain⟨o2,rfl,q1,q2,q3,q4⟩:=hq
  (try dsimp only at q1 q2 q3 q4)
  have k5:=(q4 ⟨101000000,σ.next⟩ (by(try dsimp only);omega)).trans h5
  have o25:=cz (a:=⟨101000000,σ.next⟩) (b:=o2) (by(try dsimp only);omega)
  refine hN _ _ ?_
  clear hN N
  (try((repeat(revert hN;revert N;apply Pn.out));refine wk (tw @AS.eq_1 (tw @AW.eq_1 (tw @e2 @k5))) ?_;(repeat(refine Pn.mk ?_;intro N hN))))
  exact e9 (.inl rfl) (vs:=[.agg [.own o2 0 L.length]]) (by rw[AW];simp only[fu,iv,go_sem, ↓reduceIte,Nat.reduceEqDiff,Nat.reduceAdd,Nat.reduceSub,Nat.reduceLeDiff,reduceCtorEq,e2]) ⟨o2,rfl,sd (tw @o25 @q1),by omega,by(try dsimp only);omega,by(try dsimp only);omega,fun y hy RW=>by
   have h1:=dr (i:=y) (n:=σ.next) hy
   simp only[go_sem, ↓reduceIte,Nat.reduceEqDiff,Nat.reduceAdd,Nat.reduceSub,Nat.reduceLeDiff,reduceCtorEq,h1]
   exact(q4 y (by omega)).trans (jG y hy RW)⟩
theorem lY.three {g g':Rows} {n n':Nat} {c T O:Id} {s:az} {ts:List ad} (h:lY g n c T O s ts) (hn:n<=n') (hc:g' c=g c) (hT:g' T=g T) (hO:g' O=g O):lY g' n' c T O s ts:=
 ⟨hc.trans h.row,hT.trans h.tl,by rw[hO];exact h.op,Nat.lt_of_lt_of_le h.cv hn,Nat.lt_of_lt_of_le h.tv hn,Nat.lt_of_lt_of_le h.ov hn,h.cT,h.cO,h.TO⟩
theorem zj (q:ad):∀l:List ad,(l++[q]).Perm (iD l q)
 |[]=>List.Perm.refl _
 |x::l=>by
  have ih:=zj q l
  rw[iD]
  split
  ·exact List.perm_append_comm (l₁:=x::l) (l₂:=[q])
  ·exact ih.cons x
structure oE (s:az) (S:iU):Prop where
 at_:∀q,gF (s.aZ.ah++S.1) q=gF S.2 q
 perm:(s.aZ.ah++S.1).Perm S.2
theorem oE.fit {s:az} {S:iU} (h:oE s S) (p:aI) (t:Int):kc s (s.aZ.ah++S.1) p t=kc s S.2 p t:=by
 have e:gF (s.aZ.ah++S.1)=gF S.2:=funext h.at_
 unfold kc
 rw[e]
theorem oE.no {s:az} {S:iU} (h:oE s S) {p:aI} (h0:eF S.2 p<0):eF (s.aZ.ah++S.1) p<0:=lQ.2 fun t ht=>lQ.1 h0 t (h.perm.subset ht)
theorem oE.put {s:az} {S:iU} (h:oE s S) {x:ad} (h0:eF S.2 x.aO<0):oE s (S.1++[x],iD S.2 x) where
 at_ q:=by
  show gF (s.aZ.ah++(S.1++[x])) q=gF (iD S.2 x) q
  rw[<-List.append_assoc,zJ q (lQ.1 (h.no h0)),Bm q (lQ.1 h0),h.at_]
 perm:=by
  show(s.aZ.ah++(S.1++[x])).Perm (iD S.2 x)
  rw[<-List.append_assoc]
  exact(h.perm.append_right [x]).trans (zj x S.2)
structure NI (σ:ar) (m:Nat) (c T O:Id) (s:az) (l:List ad) (S:iU) (e7:AV) (g:Rows) (n:Nat):Prop where
 xJ:lY g n c T O s (s.aZ.ah++S.1)
 u:(S.1=[]/\e7=.bl)∨∃u:Id,e7=.own u 0 S.1.length/\g u=some ⟨true,3,S.1.map aa⟩/\m<=u.ck/\u.ck<n/\0<S.1.length
 lo:m<=n
 fr:∀x:Id,x.ck<m->x≠T->x≠O->x≠c->g x=σ.get x
theorem NI.frame {σ:ar} {m:Nat} {c T O:Id} {s:az} {l:List ad} {S:iU} {e7 QU:AV} {g g':Rows} {n n':Nat} (h:NI σ m c T O s l S e7 g n) (he:QU=e7) (hn:n<=n') (hf:∀x:Id,x.ck<n->g' x=g x):NI σ m c T O s l S QU g' n' where
 xJ:=h.xJ.frame hn hf
 u:=by
  subst he
  rcases h.u with h1|⟨u,h1,h2,h3,h4,h5⟩
  ·exact .inl h1
  ·exact .inr ⟨u,h1,(hf u h4).trans h2,h3,by omega,h5⟩
 lo:=Nat.le_trans h.lo hn
 fr x hx h1 h2 h3:=(hf x (Nat.lt_of_lt_of_le hx h.lo)).trans (h.fr x hx h1 h2 h3)
theorem Jr (s:az) (hP:F8 s) (l:List ad) (hA:jj s.aH l) (hW:iT s.aZ.ah l=true) (σ:ar):Call Tryz.prog 161 [.agg (au s),.agg [.sl (l.map aa)]] σ (fun r σ'=>∃v o,r=.gD [v,.agg [.own o 0 (jc s l).2.length]]/\(((jc s l).1=[]/\v=.bl)∨∃u:Id,v=.own u 0 (jc s l).1.length/\σ'.get u=some ⟨true,3,(jc s l).1.map aa⟩/\σ.next<=u.ck/\u.ck<σ'.next/\u.ck<o.ck/\0<(jc s l).1.length)/\σ'.get o=some ⟨true,3,(jc s l).2.map aa⟩/\σ.next<=o.ck/\o.ck<σ'.next/\∀x:Id,x.ck<σ.next->σ'.get x=σ.get x):=by
 refine eL dX rfl fun kp=>?_
 clear kp
 have I4:=hA.1.rP
 have LF:=tn hP hA hW
 have RH:=LF.rP
 (try dsimp only at RH)
 have hsf:=hP.xn
 (try((repeat(revert hN;revert N;apply Pn.out));refine wk @au.eq_1 ?_;(repeat(refine Pn.mk ?_;intro N hN))))
 have hc:=fun σ=>Aw s hP.set s.aZ.ah hP.xn σ
 rw[au]at hc
 refine .inr (aC _ _ _ _ _ (fun r σ1 hq=>?_) (hc _))
 obtain⟨g1,x1⟩:=σ1
 obtain⟨c,T,O,rfl,hC,S9,SZ,hOv,qO,jG⟩:=hq
 (try dsimp only at hC S9 SZ hOv qO jG)
 have k3:=jG ⟨161000001,σ.next⟩ (by(try dsimp only);omega)
 have k5:=jG ⟨161000003,σ.next⟩ (by(try dsimp only);omega)
 simp only[go_sem, ↓reduceIte,Nat.reduceEqDiff,Nat.reduceAdd,Nat.reduceSub,Nat.reduceLeDiff,reduceCtorEq]at k3 k5
 have hcx:=hC.cv
 have hTx:=hC.tv
 have hOx:=hC.ov
 refine hN _ _ ?_
 clear hN N
 (try((repeat(revert hN;revert N;apply Pn.out));refine wk (tw @k3 (tw @k5 @au.eq_1)) ?_;(repeat(refine Pn.mk ?_;intro N hN))))
 refine aU (fun n env st=>∃(S:iU) (m:Nat) (go:Bool),n=(if go then m else 0)/\env 8=.bool go/\(go=true->wN s l m S=jc s l/\oR l S.2<m)/\(go=false->S=jc s l)/\ow s l S/\oE s S/\NI ⟨g1,x1⟩ x1 c T O s l S (env 7) st.get st.next) (l.length+1) ⟨([],s.aZ.ah),l.length+1,true,rfl,sd @Nat.zero_add,fun _=>⟨rfl,by have:=Fp l s.aZ.ah;(try dsimp only);omega⟩,fun h=>(by cases h),LF,⟨fun q=>by simp,by simp⟩,?_⟩ ?_
 ·refine⟨?_,.inl ⟨rfl,sd @Nat.zero_add⟩,by(try dsimp only);omega,fun x hx h1 h2 h3=>sd @Nat.zero_add⟩
  have:=hC.frame (g':=g1) (n':=x1+1+1+1) (by omega) fun x hx=>rfl
  simpa using this
 rintro n1 e1 st1 ⟨S,m,go,rfl,e8,rS,hend,hI,hSm,hR⟩ hk
 have c3:=hk 3 (by kernel_rfl)
 have c5:=hk 5 (by kernel_rfl)
 have c6:=hk 6 (by kernel_rfl)
 simp only[go_sem, ↓reduceIte,Nat.reduceEqDiff,Nat.reduceAdd,Nat.reduceSub,Nat.reduceLeDiff,reduceCtorEq]at c3 c5 c6
 clear hk hc
 have nv:∀{x y:Id},x.ck<y.ck->x≠y:=fun h e=>by rw[e]at h;omega
 have b3:=(hR.fr ⟨161000001,σ.next⟩ (by(try dsimp only);omega) (nv (by(try dsimp only);omega)) (nv (by(try dsimp only);omega)) (nv (by(try dsimp only);omega))).trans k3
 have b5:=(hR.fr ⟨161000003,σ.next⟩ (by(try dsimp only);omega) (nv (by(try dsimp only);omega)) (nv (by(try dsimp only);omega)) (nv (by(try dsimp only);omega))).trans k5
 have hRl:=hR.lo
 cases go
 ·have hS:=hend rfl
  subst hS
  clear hend rS
  (try((repeat(revert hN;revert N;apply Pn.out));refine wk (tw @e8 @c6) ?_;(repeat(refine Pn.mk ?_;intro N hN))))
  have C9:=hI.len
  have hsf2:=hI.rP
  refine .inr (aC _ _ _ _ _ (fun r σ2 hq=>?_) (Dl (σ:=⟨st1.get,_⟩) (L:=(jc s l).2) (hR.xJ.frame (by(try dsimp only);omega) fun x _=>rfl) (by rw[List.length_append];omega) (fun e=>by have:=congrArg List.length e;rw[List.length_append,List.length_nil]at this;have:=hP.some;omega) hI.Hl hSm.perm))
  obtain⟨g2,x2⟩:=σ2
  obtain⟨o,rfl,q1,q2,q3,q4,q5⟩:=hq
  (try dsimp only at q1 q2 q3 q4 q5)
  have d5:=(q5 ⟨161000003,σ.next⟩ (by(try dsimp only);omega) (nv (by(try dsimp only);omega))).trans b5
  refine hN _ _ ?_
  clear hN N
  (try((repeat(revert hN;revert N;apply Pn.out));refine wk (tw @c5 (tw @d5 @c6)) ?_;(repeat(refine Pn.mk ?_;intro N hN))))
  have vv:∀x:Id,σ.next<x.ck->(x=(⟨161000003,σ.next⟩:Id))=False:=fun x hx=>eq_false fun e=>by rw[e]at hx;(try dsimp only at hx);omega
  have vo:=vv o (by omega)
  refine e9 (.inl rfl) (vs:=[e1 7,.agg [.own o 0 (jc s l).2.length]]) (sd @c5) ⟨_,o,rfl,?_,sd (tw @vo @q1),by omega,by(try dsimp only);omega,fun x hx=>?_⟩
  ·rcases hR.u with h1|⟨u,h1,h2,h3,h4,h40⟩
   ·exact .inl h1
   ·have vu:=vv u (by omega)
    have h5:=(q5 u (by(try dsimp only);omega) (fun e=>by rw[e]at h3;omega)).trans h2
    exact .inr ⟨u,h1,sd (tw @vu @h5),by omega,by(try dsimp only);omega,by(try dsimp only at q2);omega,h40⟩
  ·have h1:=dr hx
   have h2:=q5 x (by omega) (nv (by omega))
   have h3:=hR.fr x (by omega) (nv (by omega)) (nv (by omega)) (nv (by omega))
   have h4:=jG x (by(try dsimp only);omega)
   simp only[go_sem, ↓reduceIte,Nat.reduceEqDiff,Nat.reduceAdd,Nat.reduceSub,Nat.reduceLeDiff,reduceCtorEq,h1]at h4
   (try dsimp only at h3)
   simp only[go_sem, ↓reduceIte,Nat.reduceEqDiff,Nat.reduceAdd,Nat.reduceSub,Nat.reduceLeDiff,reduceCtorEq,h1]
   exact h2.trans (h3.trans h4)
 ·obtain⟨hF,hm⟩:=rS rfl
  clear hend rS
  have DW:fN s l S 0=S:=by simp[fN]
  (try((repeat(revert hN;revert N;apply Pn.out));refine wk (tw @e8 (tw @c3 @b3)) ?_;(repeat(refine Pn.mk ?_;intro N hN))))
  refine aU (fun n env st=>∃i:Nat,n=(l.length)-i/\i<=(l.length)/\env 19=.int .i64 (i:Int)/\(env 8=.bool (decide ((fN s l S i).1.length≠S.1.length))/\oE s (fN s l S i)/\NI ⟨g1,x1⟩ x1 c T O s l (fN s l S i) (env 7) st.get st.next)) (l.length) ⟨0,by omega,by omega,sl (tw @c3 (tw @c5 @c6)),by(try dsimp only);exact⟨by rw[DW];simp only[go_sem, ↓reduceIte,Nat.reduceEqDiff,Nat.reduceAdd,Nat.reduceSub,Nat.reduceLeDiff,reduceCtorEq]<;>simp,by rw[DW];exact hSm,by rw[DW];exact hR.frame (sd @Nat.zero_add) (by(try dsimp only);omega) fun x _=>rfl⟩⟩ ?_
  rintro n_b env_b st_b ⟨i,rfl,ble,b19,bI0⟩ gh
  have b3:=gh 3 (by kernel_rfl);have b5:=gh 5 (by kernel_rfl);have b6:=gh 6 (by kernel_rfl);have KR:=gh 17 (by kernel_rfl);have KS:=gh 18 (by kernel_rfl)
  simp only[go_sem, ↓reduceIte,Nat.reduceEqDiff,Nat.reduceAdd,Nat.reduceSub,Nat.reduceLeDiff,reduceCtorEq,c3,c5,c6]at b3 b5 b6 KR KS
  clear gh
  obtain⟨b8,bS,bR⟩:=bI0
  obtain⟨Bc,I7,C6⟩:=xE hI hA i (by omega)
  by_cases hi:(i:Int)<(l.length:Int)
  ·have gn:∀{e:Env} {gg:Rows} {nx:Nat},(e 19=.int .i64 (IntKind.i64.wrap ((i:Int)+1)))->(e 8=.bool (decide ((fN s l S (i+1)).1.length≠S.1.length))/\oE s (fN s l S (i+1))/\NI ⟨g1,x1⟩ x1 c T O s l (fN s l S (i+1)) (e 7) gg nx)->∃m0,m0<(l.length)-i/\∃i:Nat,m0=(l.length)-i/\i<=(l.length)/\e 19=.int .i64 (i:Int)/\(e 8=.bool (decide ((fN s l S i).1.length≠S.1.length))/\oE s (fN s l S i)/\NI ⟨g1,x1⟩ x1 c T O s l (fN s l S i) (e 7) gg nx):=fun x1 x2=>⟨_,by omega,i+1,rfl,by omega,(by rw[x1,aA (by omega)]),x2⟩
   have fw:i<l.length:=by omega
   have yS:=qS s l S fw
   have hx:=gK fw
   have ht:=hA.2 _ hx
   have ke:=fx fw
   have Q4:=Bc.asm hA
   have lL:(l.map aa).length=l.length:=by simp
   have Uu:=Bc.rP
   have Uv:=Bc.len
   have LX:CC (aJ l i).aO=true:=hA.1.pt fw
   generalize fN s l S i=U at Bc Q4 yS Uu Uv C6 b8 bS bR
   have hFU:∀q,0<=gF (s.aZ.ah++U.1) q->eM s.aH (gF (s.aZ.ah++U.1) q)=true:=fun q hq=>by
    rw[bS.at_]at hq ⊢
    exact iw.M1 Q4 q hq
   (try((repeat(revert hN;revert N;apply Pn.out));refine wk (tw @b19 (tw @b3 (tw @b5 (tw @b6 (tw @KR (tw @KS (tw @hi (tw @ke (tw @lL @aa.eq_1))))))))) ?_;(repeat(refine Pn.mk ?_;intro N hN))))
   have td:=bS.fit (aJ l i).aO (aJ l i).aV
   refine .inl ⟨_,IJ (bR.xJ.xJ.frame (by(try dsimp only);omega) (by(have:=dr bR.xJ.cv);simp only[go_sem, ↓reduceIte,Nat.reduceEqDiff,Nat.reduceAdd,Nat.reduceSub,Nat.reduceLeDiff,reduceCtorEq,this]) (by(have:=dr bR.xJ.tv);simp only[go_sem, ↓reduceIte,Nat.reduceEqDiff,Nat.reduceAdd,Nat.reduceSub,Nat.reduceLeDiff,reduceCtorEq,this])) hP.set hFU (aJ l i).aO (aJ l i).aV ht,?_⟩
   refine hN _ _ ?_
   clear hN N
   cases hf:kc s U.2 (aJ l i).aO (aJ l i).aV
   ·rw[wO hf]at yS
    rw[hf]at td
    (try((repeat(revert hN;revert N;apply Pn.out));refine wk (tw @b19 (tw @b3 (tw @b5 (tw @b6 (tw @KR (tw @KS (tw @td @ke))))))) ?_;(repeat(refine Pn.mk ?_;intro N hN))))
    exact gn (sd (tw @b19 (tw @b3 (tw @b5 (tw @b6 (tw @KR @KS)))))) (by(try dsimp only);exact⟨by rw[yS];simp only[go_sem, ↓reduceIte,Nat.reduceEqDiff,Nat.reduceAdd,Nat.reduceSub,Nat.reduceLeDiff,reduceCtorEq,b8],by rw[yS];exact bS,by rw[yS];exact bR.frame (sd @Nat.zero_add) (by(try dsimp only);omega) (fun y hy=>by
     have h9:=dr hy
     simp only[go_sem, ↓reduceIte,Nat.reduceEqDiff,Nat.reduceAdd,Nat.reduceSub,Nat.reduceLeDiff,reduceCtorEq,h9])⟩)
   ·rw[ug hf]at yS
    rw[hf]at td
    (try((repeat(revert hN;revert N;apply Pn.out));refine wk (tw @b19 (tw @b3 (tw @b5 (tw @b6 (tw @KR (tw @KS (tw @td @ke))))))) ?_;(repeat(refine Pn.mk ?_;intro N hN))))
    have h0:=bS.no (oP hA Bc.sub hf)
    have BV:=bR.lo
    have cx:=bR.xJ.cv
    have Tx:=bR.xJ.tv
    have Ox:=bR.xJ.ov
    refine .inr (aC _ _ _ _ _ (fun r σ2 hq=>?_) (Sd (σ:=⟨bt (bt st_b.get ⟨161008002,st_b.next+1⟩ ⟨true,3,[[.int .i64 0,.int .i64 0,.int .i64 0]]⟩) ⟨161008002,st_b.next+1⟩ ⟨true,3,[[.int .i64 (aJ l i).aO.eZ,.int .i64 (aJ l i).aO.eU,.int .i64 (aJ l i).aV]]⟩,st_b.next+1+1+1+1⟩) (bR.xJ.frame (by(try dsimp only);omega) fun x hx=>by
     have h9:=dr hx
     simp only[go_sem, ↓reduceIte,Nat.reduceEqDiff,Nat.reduceAdd,Nat.reduceSub,Nat.reduceLeDiff,reduceCtorEq,h9]) hP.set hFU (aJ l i).aO LX (aJ l i).aV ht h0))
    obtain⟨g2,x2⟩:=σ2
    obtain⟨rfl,IS,HS,K0⟩:=hq
    (try dsimp only at IS HS K0)
    have kt:=K0 ⟨161008002,st_b.next+1⟩ (by(try dsimp only);omega) (fun e=>by rw[<-e]at Tx;(try dsimp only at Tx);omega) (fun e=>by rw[<-e]at Ox;(try dsimp only at Ox);omega)
    simp only[go_sem, ↓reduceIte,Nat.reduceEqDiff,Nat.reduceAdd,Nat.reduceSub,Nat.reduceLeDiff,reduceCtorEq]at kt
    have yT:(⟨(aJ l i).aO,(aJ l i).aV⟩:ad)=aJ l i:=rfl
    rw[yT,List.append_assoc]at IS
    have hd:decide ((U.1++[aJ l i]).length≠S.1.length)=true:=decide_eq_true (by rw[iP];omega)
    have x7:=iP U.1 (aJ l i)
    have rU:=r7 U.1 (aJ l i)
    have TG:=dr (i:=⟨161008002,st_b.next+1⟩) (n:=x2) (by(try dsimp only);omega)
    have c2:=dr IS.cv
    have T2:=dr IS.tv
    have O2:=dr IS.ov
    have I5:∀y:Id,y.ck<x1->y≠T->y≠O->g2 y=st_b.get y:=fun y hy h1 h2=>by
     have h3:=K0 y (by omega) h1 h2
     have h4:=dr (i:=y) (n:=st_b.next) (by omega)
     simp only[go_sem, ↓reduceIte,Nat.reduceEqDiff,Nat.reduceAdd,Nat.reduceSub,Nat.reduceLeDiff,reduceCtorEq,h4]at h3
     exact h3
    refine hN _ _ ?_
    clear hN N
    rcases bR.u with⟨hU,b7⟩|⟨u,b7,bu,hu3,hu4,_⟩
    ·(try((repeat(revert hN;revert N;apply Pn.out));refine wk (tw @b19 (tw @b3 (tw @b5 (tw @b6 (tw @KR (tw @KS (tw @b7 (tw @kt @TG)))))))) ?_;(repeat(refine Pn.mk ?_;intro N hN))))
     exact gn (sd (tw @b19 (tw @b3 (tw @b5 (tw @b6 (tw @KR @KS)))))) (by(try dsimp only);exact⟨by rw[yS,hd]<;>simp only[go_sem, ↓reduceIte,Nat.reduceEqDiff,Nat.reduceAdd,Nat.reduceSub,Nat.reduceLeDiff,reduceCtorEq],by rw[yS];exact bS.put (oP hA Bc.sub hf),by
      rw[yS]
      refine⟨IS.three (by(try dsimp only);omega) (sd @c2) (sd @T2) (sd @O2),.inr ⟨⟨161011003,x2+1⟩,by rw[x7,hU];simp only[go_sem, ↓reduceIte,Nat.reduceEqDiff,Nat.reduceAdd,Nat.reduceSub,Nat.reduceLeDiff,reduceCtorEq]<;>rfl,by rw[rU,hU];simp only[go_sem, ↓reduceIte,Nat.reduceEqDiff,Nat.reduceAdd,Nat.reduceSub,Nat.reduceLeDiff,reduceCtorEq]<;>rfl,by(try dsimp only);omega,by(try dsimp only);omega,by(try dsimp only);rw[iP];omega⟩,by(try dsimp only);omega,fun y hy h1 h2 h3=>?_⟩
      have h4:=dr (i:=y) (n:=x2) (by omega)
      have h5:=I5 y hy h1 h2
      have h6:=bR.fr y hy h1 h2 h3
      (try dsimp only at h6)
      simp only[go_sem, ↓reduceIte,Nat.reduceEqDiff,Nat.reduceAdd,Nat.reduceSub,Nat.reduceLeDiff,reduceCtorEq,h4,h5,h6]⟩)
    ·have ku:=K0 u (by(try dsimp only);omega) (fun e=>by rw[e]at hu3;omega) (fun e=>by rw[e]at hu3;omega)
     have vu:=dr hu4
     simp only[go_sem, ↓reduceIte,Nat.reduceEqDiff,Nat.reduceAdd,Nat.reduceSub,Nat.reduceLeDiff,reduceCtorEq,vu,bu]at ku
     have VF:=dr (i:=u) (n:=x2) (by omega)
     have ut:=cz (a:=u) (b:=⟨161008002,st_b.next+1⟩) (by(try dsimp only);omega)
     have Vp:(U.1.map aa).length=U.1.length:=by simp
     have Tu:U.1.length<=16777215:=by omega
     have uc:=cz (a:=c) (b:=u) (by omega)
     have uT:=cz (a:=T) (b:=u) (by omega)
     have uO:=cz (a:=O) (b:=u) (by omega)
     (try((repeat(revert hN;revert N;apply Pn.out));refine wk (tw @b19 (tw @b3 (tw @b5 (tw @b6 (tw @KR (tw @KS (tw @b7 (tw @kt (tw @TG (tw @ku (tw @VF (tw @ut (tw @Vp @Tu))))))))))))) ?_;(repeat(refine Pn.mk ?_;intro N hN))))
     exact gn (sd (tw @b19 (tw @b3 (tw @b5 (tw @b6 (tw @KR @KS)))))) (by(try dsimp only);exact⟨by rw[yS,hd]<;>simp only[go_sem, ↓reduceIte,Nat.reduceEqDiff,Nat.reduceAdd,Nat.reduceSub,Nat.reduceLeDiff,reduceCtorEq],by rw[yS];exact bS.put (oP hA Bc.sub hf),by
      rw[yS]
      refine⟨IS.three (by(try dsimp only);omega) (sd (tw @c2 @uc)) (sd (tw @T2 @uT)) (sd (tw @O2 @uO)),.inr ⟨⟨161011003,x2+1⟩,by rw[x7];simp only[go_sem, ↓reduceIte,Nat.reduceEqDiff,Nat.reduceAdd,Nat.reduceSub,Nat.reduceLeDiff,reduceCtorEq]<;>rfl,by rw[rU];simp only[go_sem, ↓reduceIte,Nat.reduceEqDiff,Nat.reduceAdd,Nat.reduceSub,Nat.reduceLeDiff,reduceCtorEq]<;>rfl,by(try dsimp only);omega,by(try dsimp only);omega,by(try dsimp only);rw[iP];omega⟩,by(try dsimp only);omega,fun y hy h1 h2 h3=>?_⟩
      have h4:=dr (i:=y) (n:=x2) (by omega)
      have h5:=I5 y hy h1 h2
      have h6:=bR.fr y hy h1 h2 h3
      have h7:=cz (a:=y) (b:=u) (by omega)
      (try dsimp only at h6)
      simp only[go_sem, ↓reduceIte,Nat.reduceEqDiff,Nat.reduceAdd,Nat.reduceSub,Nat.reduceLeDiff,reduceCtorEq,h4,h5,h6,h7]⟩)
  ·have lK:i=l.length:=by omega
   subst lK
   rw[pJ]at Bc b8 I7 bS bR
   have qO:=yX hI hA hm
   (try((repeat(revert hN;revert N;apply Pn.out));refine wk (tw @b19 (tw @b3 (tw @b5 (tw @b6 (tw @KR (tw @KS @hi)))))) ?_;(repeat(refine Pn.mk ?_;intro N hN))))
   by_cases he:(gG s l S).1.length=S.1.length
   ·refine⟨0,by show 0<m;omega,gG s l S,0,false,rfl,?_,fun h=>(by cases h),fun _=>(qO.1 he).symm.trans hF,Bc,bS,bR.frame (sd @Nat.zero_add) (by(try dsimp only);omega) fun x _=>rfl⟩
    simp only[go_sem, ↓reduceIte,Nat.reduceEqDiff,Nat.reduceAdd,Nat.reduceSub,Nat.reduceLeDiff,reduceCtorEq,b8,he]<;>simp
   ·obtain⟨m',rfl,LC,HQ⟩:=qO.2 he
    refine⟨m',Nat.lt_succ_self _,gG s l S,m',true,rfl,?_,fun _=>⟨LC.symm.trans hF,HQ⟩,fun h=>(by cases h),Bc,bS,bR.frame (sd @Nat.zero_add) (by(try dsimp only);omega) fun x _=>rfl⟩
    have hd:=decide_eq_true he
    simp only[go_sem, ↓reduceIte,Nat.reduceEqDiff,Nat.reduceAdd,Nat.reduceSub,Nat.reduceLeDiff,reduceCtorEq,b8]
    rw[hd]
theorem tx {s:az} {l:List ad}:jh s l=0↔Bj s/\jj s.aH l/\iT s.aZ.ah l=true:=by
 unfold jh
 cases b:rD s l
 ·simp;intro h1 h2;exact absurd (rE.2 ⟨h1,h2⟩) (by rw[b];simp)
 ·obtain⟨h1,h2⟩:=rE.1 b
  cases iT s.aZ.ah l<;>simp[h1,h2]
structure Qa (g:Rows) (n:Nat) (A S C c T O:Id) (s:az) (l:List ad):Prop where
 a:∃b,g A=some ⟨b,1,[[.sl (l.map aa)]]⟩
 sy:∃b,g S=some ⟨b,4,[au s]⟩
 p:∃b,g C=some ⟨b,1,[[.ptr c 0 0]]⟩
 xJ:C1 g n c T O s l
 av:A.ck<n
 sv:S.ck<n
 pv:C.ck<n
theorem Qa.ro {g:Rows} {n:Nat} {A S C c T O:Id} {s:az} {l:List ad} (h:Qa g n A S C c T O s l):Qa (V.ro g) n A S C c T O s l:=by
 obtain⟨b,h1⟩:=h.a
 obtain⟨b2,h2⟩:=h.sy
 obtain⟨b3,h3⟩:=h.p
 exact⟨⟨false,by simp[V.ro,h1]⟩,⟨false,by simp[V.ro,h2]⟩,⟨false,by simp[V.ro,h3]⟩,h.xJ.ro,h.av,h.sv,h.pv⟩
theorem Qa.frame {g g':Rows} {n n':Nat} {A S C c T O:Id} {s:az} {l:List ad} (h:Qa g n A S C c T O s l) (hn:n<=n') (hf:∀x:Id,x.ck<n->g' x=g x):Qa g' n' A S C c T O s l:=
 ⟨by rw[hf _ h.av];exact h.a,by rw[hf _ h.sv];exact h.sy,by rw[hf _ h.pv];exact h.p,h.xJ.frame hn (hf _ h.xJ.cv) (hf _ h.xJ.tv),Nat.lt_of_lt_of_le h.av hn,Nat.lt_of_lt_of_le h.sv hn,Nat.lt_of_lt_of_le h.pv hn⟩
def iO (p:aI->Bool) (l:List aI):List aI:=l.filter fun x=> !p x
theorem qU {p:aI->Bool} {l:List aI} {j:Nat} (hj:j<l.length):iO p (l.take (j+1))=iO p (l.take j)++if p l[j]=true then[]else[l[j]]:=by
 unfold iO
 rw[List.take_succ_eq_append_getElem hj,List.filter_append]
 congr 1
 cases h:p l[j]<;>simp[h]
theorem D8 {p:aI->Bool} {l:List aI} (h:∀b∈l,p b=false):iO p l=l:=by
 unfold iO
 rw[List.filter_eq_self]
 intro b hb
 rw[h b hb];rfl
structure KQ (p:aI->Bool) (bs:List aI) (j:Nat) (R:List aI):Prop where
 len:R.length=bs.length
 pre:R.take (iO p (bs.take j)).length=iO p (bs.take j)
 post:∀x,j<=x->R[x]? =bs[x]?
 lt:(iO p (bs.take j)).length<j
theorem KQ.start {p:aI->Bool} {bs:List aI} {i:Nat} (hi:i<bs.length) (hw:p bs[i]=true) (hp:∀x (h:x<i),p bs[x]=false):KQ p bs (i+1) bs/\(iO p (bs.take (i+1))).length=i:=by
 have h1:iO p (bs.take i)=bs.take i:=D8 fun b hb=>by
  obtain⟨x,hx,rfl⟩:=List.getElem_of_mem hb
  rw[List.length_take]at hx
  rw[List.getElem_take]
  exact hp x (by omega)
 have h2:iO p (bs.take (i+1))=bs.take i:=by rw[qU hi,if_pos hw,List.append_nil,h1]
 have h3:(bs.take i).length=i:=by rw[List.length_take];omega
 exact⟨⟨rfl,by rw[h2,h3],fun _ _=>rfl,by rw[h2,h3];omega⟩,by rw[h2,h3]⟩
theorem KQ.Sr {p:aI->Bool} {bs R:List aI} {j:Nat} (h:KQ p bs j R) (hj:j<bs.length) (hw:p bs[j]=true):KQ p bs (j+1) R/\(iO p (bs.take (j+1))).length=(iO p (bs.take j)).length:=by
 have h2:iO p (bs.take (j+1))=iO p (bs.take j):=by rw[qU hj,if_pos hw,List.append_nil]
 exact⟨⟨h.len,by rw[h2];exact h.pre,fun x hx=>h.post x (by omega),by rw[h2];have:=h.lt;omega⟩,by rw[h2]⟩
theorem KQ.qT {p:aI->Bool} {bs R:List aI} {j:Nat} (h:KQ p bs j R) (hj:j<bs.length) (hw:p bs[j]=false):KQ p bs (j+1) (R.set (iO p (bs.take j)).length bs[j])/\(iO p (bs.take (j+1))).length=(iO p (bs.take j)).length+1:=by
 have h2:iO p (bs.take (j+1))=iO p (bs.take j)++[bs[j]]:=by rw[qU hj,hw];rfl
 have dU:=h.lt
 have hlen:=h.len
 have uG:=h.pre
 generalize hc:(iO p (bs.take j)).length=c at *
 refine⟨⟨by rw[List.length_set];exact hlen,?_,fun x hx=>?_,by rw[h2,List.length_append,hc];simp;omega⟩,by rw[h2,List.length_append,hc];rfl⟩
 ·rw[h2,List.length_append,hc,List.length_singleton,List.take_succ_eq_append_getElem (by rw[List.length_set];omega),List.getElem_set_self,List.take_set_of_le (Nat.le_refl _),uG]
 ·rw[List.getElem?_set_ne (by omega)];exact h.post x (by omega)
theorem KQ.at_ {p:aI->Bool} {bs R:List aI} {j:Nat} (h:KQ p bs j R) (hj:j<bs.length):(R.map ae)[j]? =some (ae bs[j]):=by
 rw[List.getElem?_map,h.post j (Nat.le_refl j),List.getElem?_eq_getElem hj];rfl
structure nG (n:Nat) (px:Nat->Option Nat) (L:Nat->Nat):Prop where
 top:∀k,k<n->px k=none->L k=k
 up:∀k j,k<n->px k=some j->j<k/\L j=L k
theorem nG.root {n:Nat} {px:Nat->Option Nat} {L:Nat->Nat} (h:nG n px L) (hL:jN L) {k:Nat} (hk:k<n) (hr:L k=k):px k=none:=by
 rcases hp:px k with _|j
 ·rfl
 ·obtain⟨h1,h2⟩:=h.up k j hk hp
  have:=hL.le j
  omega
theorem nG.start (n:Nat):nG n (fun _=>none) id:=⟨fun _ _ _=>rfl,fun _ _ _ h=>by cases h⟩
theorem nG.join {n:Nat} {px:Nat->Option Nat} {L:Nat->Nat} (h:nG n px L) (hL:jN L) (b:PB) (dU:min (L b.a) (L b.b)<max (L b.a) (L b.b)):nG n (fun k=>if k=max (L b.a) (L b.b)then some (min (L b.a) (L b.b))else px k) (eP L b):=by
 have ha:=hL.idem b.a
 have hb:=hL.idem b.b
 have Ae:L (min (L b.a) (L b.b))=min (L b.a) (L b.b):=by
  rcases Nat.le_total (L b.a) (L b.b)with h|h
  ·rw[Nat.min_eq_left h,ha]
  ·rw[Nat.min_eq_right h,hb]
 have Rx:L (max (L b.a) (L b.b))=max (L b.a) (L b.b):=by
  rcases Nat.le_total (L b.a) (L b.b)with h|h
  ·rw[Nat.max_eq_right h,hb]
  ·rw[Nat.max_eq_left h,ha]
 unfold eP
 generalize min (L b.a) (L b.b)=lo at *
 generalize max (L b.a) (L b.b)=hi at *
 refine⟨fun k hk hp=>?_,fun k j hk hp=>?_⟩
 ·by_cases K3:k=hi
  ·rw[if_pos K3]at hp;cases hp
  ·rw[if_neg K3]at hp
   have:=h.top k hk hp
   rw[if_neg (by omega)];exact this
 ·by_cases K3:k=hi
  ·rw[if_pos K3]at hp
   cases hp
   subst K3
   exact⟨dU,by rw[if_neg (by omega),if_pos Rx,Ae]⟩
  ·rw[if_neg K3]at hp
   obtain⟨h1,h2⟩:=h.up k j hk hp
   exact⟨h1,by rw[h2]⟩
theorem Am {L:Nat->Nat} {b:PB} (h:L b.a=L b.b):eP L b=L:=by
 funext k
 unfold eP
 rw[h,Nat.max_self,Nat.min_self]
 split
 ·rename_i h;exact h.symm
 ·rfl
def s8 (G:Nat->Id) (px:Nat->Option Nat) (k:Nat):List AV:=[match px k with|none=>.gT|some j=>.ptr (G j) 0 0,.int .i64 (k:Int)]
def ux (g:Rows) (G:Nat->Id) (n:Nat) (px:Nat->Option Nat):Prop:=∀k,k<n->g (G k)=some ⟨true,2,[s8 G px k]⟩
theorem ux.frame {g g':Rows} {G:Nat->Id} {n:Nat} {px:Nat->Option Nat} (h:ux g G n px) (hf:∀k,k<n->g' (G k)=g (G k)):ux g' G n px:=fun k hk=>(hf k hk).trans (h k hk)
theorem lJ {G:Nat->Id} {px:Nat->Option Nat} {k:Nat} (h:px k=none):s8 G px k=[.gT,.int .i64 (k:Int)]:=by rw[s8,h]
theorem ub {G:Nat->Id} {px:Nat->Option Nat} {k j:Nat} (h:px k=some j):s8 G px k=[.ptr (G j) 0 0,.int .i64 (k:Int)]:=by rw[s8,h]
theorem zV (G:Nat->Id) (n:Nat) (px:Nat->Option Nat) (L:Nat->Nat) (h:nG n px L) (k:Nat) (hk:k<n) (σ:ar) (hG:ux σ.get G n px):
  Call Tryz.prog 334 [.ptr (G k) 0 0] σ fun r σ'=>r=.ptr (G (L k)) 0 0/\σ'.get=σ.get/\σ.next<=σ'.next:=by
 refine eL dX rfl fun hl=>?_
 clear hl
 (try((repeat(revert hN;revert N;apply Pn.out));refine wk @Nat.zero_add ?_;(repeat(refine Pn.mk ?_;intro N hN))))
 refine aU (fun m env st=>∃j:Nat,m=j/\j<n/\env 0=.ptr (G j) 0 0/\L j=L k/\st.get=σ.get/\σ.next<=st.next) k ⟨k,rfl,hk,sd @Nat.zero_add,rfl,by(try dsimp only),by(try dsimp only);omega⟩ ?_
 rintro m env_b st_b ⟨j,rfl,hj,b0,hLj,hg,hle⟩ gh
 clear gh
 have fS:=hG m hj
 rcases hp:px m with _|j
 ·rw[lJ hp]at fS
  (try((repeat(revert hN;revert N;apply Pn.out));refine wk (tw @b0 (tw @hg @fS)) ?_;(repeat(refine Pn.mk ?_;intro N hN))))
  exact e9 (.inl rfl) (vs:=[.ptr (G m) 0 0]) (sd @Nat.zero_add) ⟨by rw[<-hLj,h.top m hj hp];rfl,by first|trivial|rfl|exact hg,by(try dsimp only);omega⟩
 ·rw[ub hp]at fS
  obtain⟨h1,h2⟩:=h.up m j hj hp
  (try((repeat(revert hN;revert N;apply Pn.out));refine wk (tw @b0 (tw @hg @fS)) ?_;(repeat(refine Pn.mk ?_;intro N hN))))
  exact⟨j,h1,j,rfl,by omega,sd @Nat.zero_add,by omega,by first|trivial|rfl|exact hg,by(try dsimp only);omega⟩
end Go.Proofs.YtgoljkjaameagaaGreat.V

namespace Go.Proofs.YtgoljkjaameagaaGreat.V
open Go.RowKit
attribute [local irreducible] dI wpOps gy Call
attribute [local go_sem] aM fG eQ fZ fY cQ upd cC K.av cP AV.cells AV.cell rowOf rowsOf part ld rowAt bt cu dE ee ik bJ dh ew fX eX dp ej dd dc dQ dR bQ bf cW bP cY cX eh ek ei cV b4 de ef bK aP da cG ij bw cK bU aY dn bc dF AV.undef bF bI dS ec dM dK cH ev eA cF ep eo cZ db List.getD_cons_zero List.getD_cons_succ List.getD_nil List.all_cons List.all_nil Bool.and_true Bool.true_and Bool.and_self Bool.not_true Bool.not_false Option.map_some Option.map_none Option.bind_some Option.bind_none List.length_cons List.length_nil List.take_succ_cons List.take_zero List.take_nil List.drop_succ_cons List.drop_zero List.drop_nil List.head?_cons List.map_cons List.map_nil List.getElem?_cons_zero List.getElem?_cons_succ List.cons_append List.nil_append List.append_nil List.length_map List.set_cons_zero List.set_cons_succ eq_self Int.toNat_natCast Int.natCast_nonneg and_self true_and and_true decide_true decide_false Bool.false_eq_true Nat.zero_add Nat.add_zero List.contains_cons List.contains_nil Bool.or_false Bool.false_or beq_self_eq_true ne_eq not_true_eq_false not_false_eq_true Id.mk.injEq false_and and_false Nat.le_refl List.length_append beq_true beq_false Bool.not_eq_eq_eq_not or_false false_or dJ ai aj aD bp bE cq aT bd aX bj cR bG
abbrev mI:MK:=⟨false,[.tI]⟩
def tk (l:List (Nat×Nat)):List (List AV):=l.map fun p=>[.int .i64 (p.1:Int),.int .i64 (p.2:Int)]
theorem B9 (r:Nat):∀(l:List (Nat×Nat)) (i:Nat),((∀p∈l,p.1≠r)->gm mI [.int .i64 (r:Int)] (tk l) i=some none)/\(∀j v,l[j]? =some (r,v)->(∀x y,x<j->l[x]? =some y->y.1≠r)->gm mI [.int .i64 (r:Int)] (tk l) i=some (some (i+j)))
 |[],i=>⟨fun _=>rfl,fun j v h=>by simp at h⟩
 |p::l,i=>by
  obtain⟨h1,h2⟩:=B9 r l (i+1)
  by_cases h:p.1=r
  ·refine⟨fun hp=>absurd h (hp p (by simp)),fun j v hj hf=>?_⟩
   have hj0:j=0:=by
    rcases Nat.eq_zero_or_pos j with h0|h0
    ·exact h0
    ·exact absurd h (hf 0 p h0 (by simp))
   subst hj0
   simp[tk,gm,eX,fX,MK.ks,h]
  ·have hd:¬((r:Int)=(p.1:Int)):=by omega
   have od:¬r=p.1:=fun he=>h he.symm
   have step:gm mI [.int .i64 (r:Int)] (tk (p::l)) i=gm mI [.int .i64 (r:Int)] (tk l) (i+1):=by
    unfold tk
    simp[gm,MK.ks,eX,fX,hd,od,h]
   rw[step]
   refine⟨fun hp=>h1 fun q hq=>hp q (by simp[hq]),fun j v hj hf=>?_⟩
   cases j with
   |zero=>simp at hj;rw[hj]at h;exact absurd rfl h
   |succ j=>
    rw[h2 j v (by simpa using hj) fun x y hx hy=>hf (x+1) y (by omega) (by simpa using hy)]
    congr 2;omega
theorem yW {r:Nat} {l:List (Nat×Nat)}:((∀p∈l,p.1≠r)->fP mI (.int .i64 (r:Int)) (tk l)=some none)/\(∀j v,l[j]? =some (r,v)->(∀x y,x<j->l[x]? =some y->y.1≠r)->fP mI (.int .i64 (r:Int)) (tk l)=some (some j)):=by
 have e:fP mI (.int .i64 (r:Int)) (tk l)=gm mI [.int .i64 (r:Int)] (tk l) 0:=by
  unfold fP
  rw[if_pos ⟨rfl,rfl,rfl⟩];rfl
 obtain⟨h1,h2⟩:=B9 r l 0
 rw[e]
 exact⟨h1,fun j v hj hf=>by rw[h2 j v hj hf,Nat.zero_add]⟩
def kZ (k:Nat) (L:Nat->Nat):List (List AV):=tk (leads k L).zipIdx
theorem Ec {k:Nat} {L:Nat->Nat} (h:L k=k):kZ (k+1) L=kZ k L++[[.int .i64 (k:Int),.int .i64 ((leads k L).length:Int)]]:=by
 unfold kZ
 rw[gS,if_pos h,List.zipIdx_append]
 simp[tk]
theorem Eb {k:Nat} {L:Nat->Nat} (h:L k≠k):kZ (k+1) L=kZ k L:=by
 unfold kZ
 rw[gS,if_neg h,List.append_nil]
theorem G0 {k:Nat} {L:Nat->Nat} (h:L k=k):fP mI (.int .i64 (k:Int)) (kZ k L)=some none:=by
 refine yW.1 fun p hp=>?_
 have:=List.fst_mem_of_mem_zipIdx hp
 have:=(y8.1 this).1
 omega
theorem y7 {n:Nat} {L:Nat->Nat} {x y:Nat} (hx:x<(leads n L).length) (hy:y<(leads n L).length) (h:(leads n L)[x]=(leads n L)[y]):x=y:=by
 have hp:=List.pairwise_iff_getElem.1 (ui n L)
 rcases Nat.lt_trichotomy x y with dU|he|dU
 ·exact absurd h (hp x y hx hy dU)
 ·exact he
 ·exact absurd h.symm (hp y x hy hx dU)
theorem y6 {k:Nat} {L:Nat->Nat} (hL:jN L) (h:L k≠k):fP mI (.int .i64 (L k:Int)) (kZ k L)=some (some (cj L k))/\(kZ k L)[cj L k]? =some [.int .i64 (L k:Int),.int .i64 (cj L k:Int)]/\cj L k<(leads k L).length:=by
 have dU:L k<k:=Nat.lt_of_le_of_ne (hL.le k) h
 have hn:cj L (L k)=cj L k:=by rw[cj,hL.idem,cj]
 have hg:=pK hL dU
 rw[hn,hL.idem]at hg
 have hl:cj L k<(leads k L).length:=(List.getElem?_eq_some_iff.1 hg).1
 have hz:(leads k L).zipIdx[cj L k]? =some (L k,cj L k):=by simp[List.getElem?_zipIdx,hg]
 refine⟨yW.2 _ _ hz fun x y hx hy=>?_,by unfold kZ tk;rw[List.getElem?_map,hz];rfl,hl⟩
 intro he
 rw[List.getElem?_zipIdx]at hy
 have Qx:x<(leads k L).length:=by omega
 rw[List.getElem?_eq_getElem Qx]at hy
 simp at hy
 rw[<-hy]at he
 simp at he
 have e2:(leads k L)[cj L k]=L k:=(List.getElem?_eq_some_iff.1 hg).2
 have:=y7 Qx hl (he.trans e2.symm)
 omega
def jT (k:Nat) (L:Nat->Nat):List (List Nat):=(leads k L).map (members k L)
theorem qK (k:Nat) (L:Nat->Nat):(jT k L).length=(leads k L).length:=by simp[jT]
theorem DI {k:Nat} {L:Nat->Nat} (hL:jN L) (h:L k=k):jT (k+1) L=jT k L++[[k]]:=by
 unfold jT
 rw[gS,if_pos h,List.map_append,List.map_cons,List.map_nil,jB,if_pos h,nu hL (Nat.le_refl k),List.nil_append]
 congr 1
 refine List.map_congr_left fun r hr=>?_
 have:=(y8.1 hr).1
 rw[jB,if_neg (by omega),List.append_nil]
theorem DJ {k:Nat} {L:Nat->Nat} (hL:jN L) (h:L k≠k):(jT k L)[cj L k]? =some (members k L (L k))/\jT (k+1) L=(jT k L).set (cj L k) (members k L (L k)++[k]):=by
 obtain⟨_,_,hl⟩:=y6 hL h
 have dU:L k<k:=Nat.lt_of_le_of_ne (hL.le k) h
 have hg:=pK hL dU
 have hn:cj L (L k)=cj L k:=by rw[cj,hL.idem,cj]
 rw[hn,hL.idem]at hg
 refine⟨by unfold jT;rw[List.getElem?_map,hg];rfl,?_⟩
 unfold jT
 rw[gS,if_neg h,List.append_nil]
 refine List.ext_getElem? fun i=>?_
 rw[List.getElem?_set,List.getElem?_map,List.length_map]
 by_cases hi:cj L k=i
 ·subst hi
  rw[if_pos rfl,if_pos hl,hg,Option.map_some,jB,if_pos rfl]
 ·rw[if_neg hi,List.getElem?_map]
  rcases hr:(leads k L)[i]? with _|r
  ·rfl
  ·rw[Option.map_some,Option.map_some,jB,if_neg,List.append_nil]
   rintro rfl
   obtain⟨lK,he⟩:=List.getElem?_eq_some_iff.1 hr
   have e2:(leads k L)[cj L k]=L k:=(List.getElem?_eq_some_iff.1 hg).2
   exact hi (y7 hl lK (e2.trans he.symm))
theorem Cq (k:Nat) (L:Nat->Nat) (r:Nat):(members k L r).length<=k:=by
 have:=List.length_filter_le (fun x=>L x==r) (List.range k)
 simpa[members]using this
def F4 (g:Rows) (o:Id) (L:List (List Nat)) (nx:Nat):Prop:=∃rows ids,g o=some ⟨true,1,rows⟩/\eI P9 g rows L ids/\ids.Nodup/\(∀i∈ids,i.site=320026008/\i.ck<nx)/\o.site=320025002/\o.ck<nx
theorem F4.frame {g g':Rows} {o:Id} {L:List (List Nat)} {nx vw:Nat} (h:F4 g o L nx) (hn:nx<=vw) (hf:∀i:Id,(i.site=320026008∨i.site=320025002)->i.ck<nx->g' i=g i):F4 g' o L vw:=by
 obtain⟨rows,ids,h1,h2,h3,h4,h5,h6⟩:=h
 exact⟨rows,ids,(hf o (.inr h5) h6).trans h1,h2.frame Mf fun i hi=>hf i (.inl (h4 i hi).1) (h4 i hi).2,h3,fun i hi=>⟨(h4 i hi).1,by have:=(h4 i hi).2;omega⟩,h5,by omega⟩
theorem LB {g':Rows} {v v' vw j:Nat} (h1:g' ⟨320025002,v⟩=some ⟨true,1,[[.own ⟨320026008,v'⟩ 0 1]]⟩) (h2:g' ⟨320026008,v'⟩=some ⟨true,1,[eN j]⟩) (hv:v<vw) (oi:v'<vw):F4 g' ⟨320025002,v⟩ [[j]] vw:=
 ⟨_,[⟨320026008,v'⟩],h1,.one ⟨_,rfl,h2,rfl⟩,by simp,fun i hi=>by rw[List.mem_singleton.1 hi];exact⟨rfl,oi⟩,rfl,hv⟩
theorem F4.new {g:Rows} {o:Id} {L:List (List Nat)} {nx:Nat} (h:F4 g o L nx) (j:Nat):∃rows,g o=some ⟨true,1,rows⟩/\rows.length=L.length/\∀(g':Rows) (v v' vw:Nat),nx<=v'->v<vw->v'<vw->g' ⟨320025002,v⟩=some ⟨true,1,rows++[[.own ⟨320026008,v'⟩ 0 1]]⟩->g' ⟨320026008,v'⟩=some ⟨true,1,[eN j]⟩->(∀i:Id,i.site=320026008->i.ck<nx->g' i=g i)->F4 g' ⟨320025002,v⟩ (L++[[j]]) vw:=by
 obtain⟨rows,ids,h1,h2,h3,h4,h5,h6⟩:=h
 refine⟨rows,h1,h2.len,fun g' v v' vw hv nP uI q1 q2 q3=>⟨_,ids++[⟨320026008,v'⟩],q1,(h2.frame Mf fun i hi=>q3 i (h4 i hi).1 (h4 i hi).2).app (.one ⟨_,rfl,q2,rfl⟩),?_,fun i hi=>?_,rfl,nP⟩⟩
 ·refine List.nodup_append.2 ⟨h3,by simp,fun a ha b hb qM=>?_⟩
  rw[List.mem_singleton.1 hb]at qM
  have:=(h4 a ha).2
  rw[qM]at this
  simp only at this
  omega
 ·rcases List.mem_append.1 hi with hi|hi
  ·have:=h4 i hi;exact⟨this.1,by omega⟩
  ·rw[List.mem_singleton.1 hi];exact⟨rfl,uI⟩
theorem F4.add {g:Rows} {o:Id} {L:List (List Nat)} {nx k:Nat} {La:List Nat} (h:F4 g o L nx) (hk:L[k]? =some La) (j:Nat):∃rows id,g o=some ⟨true,1,rows⟩/\rows.length=L.length/\rows[k]? =some [.own id 0 La.length]/\g id=some ⟨true,1,La.map eN⟩/\id.site=320026008/\id.ck<nx/\∀(g':Rows) (v' vw:Nat),nx<=v'->v'<vw->g' o=some ⟨true,1,rows.set k [.own ⟨320026008,v'⟩ 0 (La.length+1)]⟩->g' ⟨320026008,v'⟩=some ⟨true,1,La.map eN++[[.int .i64 (j:Int)]]⟩->(∀i:Id,i.site=320026008->i.ck<nx->(i=id)=False->g' i=g i)->F4 g' o (L.set k (La++[j])) vw:=by
 obtain⟨rows,ids,h1,h2,h3,h4,h5,h6⟩:=h
 have mh:k<L.length:=(List.getElem?_eq_some_iff.1 hk).1
 have Uo:=kS hk mh
 obtain⟨cs,ic,dt,Qh,Rr,wL⟩:=h2.Sf Mf h3 k mh
 rw[Uo]at Qh
 obtain⟨id,rfl,q1,rfl⟩:=Qh
 have hid:=h4 id (Rr id (by simp))
 refine⟨rows,id,h1,h2.len,dt,q1,hid.1,hid.2,fun g' v' vw hv nP r1 r2 r3=>?_⟩
 obtain⟨D5,s1,s2,s3⟩:=wL g' [.own ⟨320026008,v'⟩ 0 (La.length+1)] (La++[j]) [⟨320026008,v'⟩] ⟨_,by simp,by rw[r2];simp[eN],rfl⟩ (fun i hi Qm=>r3 i (h4 i hi).1 (h4 i hi).2 (by
  simp only[eq_iff_iff,iff_false];rintro rfl;exact Qm (by simp))) (by simp) fun i hi hc=>by
   rw[List.mem_singleton.1 hi]at hc
   have:=(h4 _ hc).2
   simp only at this
   omega
 refine⟨_,D5,r1,s1,s2,fun i hi=>?_,h5,by omega⟩
 rcases s3 i hi with h|h
 ·rw[List.mem_singleton.1 h];exact⟨rfl,nP⟩
 ·have:=h4 i h;exact⟨this.1,by omega⟩
def mb (G:Nat->Id) (n k:Nat):List (List AV):=(List.range n).map fun i=>[if i<k then .ptr (G i) 0 0 else .gT]
theorem mO (G:Nat->Id) (n k:Nat):(mb G n k).length=n:=by simp[mb]
theorem Hy (G:Nat->Id) (n:Nat):List.replicate n [AV.gT]=mb G n 0:=by
 refine List.ext_getElem? fun i=>?_
 by_cases h:i<n
 ·rw[List.getElem?_replicate,if_pos h];simp[mb,h]
 ·rw[List.getElem?_eq_none (by simp;omega),List.getElem?_eq_none (by rw[mO];omega)]
theorem xx {G:Nat->Id} {n i:Nat} (h:i<n):(mb G n n)[i]? =some [.ptr (G i) 0 0]:=by simp[mb,h]
theorem Kq {G:Nat->Id} {n k:Nat} (h:k<n):(mb G n k).set k [.ptr (G k) 0 0]=mb G n (k+1):=by
 refine List.ext_getElem? fun i=>?_
 rw[List.getElem?_set,mO]
 by_cases hi:k=i
 ·subst hi;rw[if_pos rfl,if_pos h];simp[mb,h]
 ·rw[if_neg hi]
  by_cases fw:i<n
  ·simp only[mb,List.getElem?_map,List.getElem?_range fw,Option.map_some]
   by_cases yO:i<k
   ·rw[if_pos yO,if_pos (by omega)]
   ·rw[if_neg yO,if_neg (by omega)]
  ·rw[List.getElem?_eq_none (by rw[mO];omega),List.getElem?_eq_none (by rw[mO];omega)]
end Go.Proofs.YtgoljkjaameagaaGreat.V

namespace Go.Proofs.YtgoljkjaameagaaGreat.V
open Go.RowKit
attribute [local irreducible] dI wpOps gy Call
attribute [local go_sem] aM fG eQ fZ fY cQ upd cC K.av cP AV.cells AV.cell rowOf rowsOf part ld rowAt bt cu dE ee ik bJ dh ew fX eX dp ej dd dc dQ dR bQ bf cW bP cY cX eh ek ei cV b4 de ef bK aP da cG ij bw cK bU aY dn bc dF AV.undef bF bI dS ec dM dK cH ev eA cF ep eo cZ db List.getD_cons_zero List.getD_cons_succ List.getD_nil List.all_cons List.all_nil Bool.and_true Bool.true_and Bool.and_self Bool.not_true Bool.not_false Option.map_some Option.map_none Option.bind_some Option.bind_none List.length_cons List.length_nil List.take_succ_cons List.take_zero List.take_nil List.drop_succ_cons List.drop_zero List.drop_nil List.head?_cons List.map_cons List.map_nil List.getElem?_cons_zero List.getElem?_cons_succ List.cons_append List.nil_append List.append_nil List.length_map List.set_cons_zero List.set_cons_succ Nat.reduceMul eq_self Int.toNat_natCast Int.natCast_nonneg and_self true_and and_true decide_true decide_false Bool.false_eq_true Nat.zero_add Nat.add_zero List.contains_cons List.contains_nil Bool.or_false Bool.false_or beq_self_eq_true Nat.reduceBEq ne_eq not_true_eq_false not_false_eq_true Id.mk.injEq false_and and_false Nat.reduceLT Int.reduceLE Int.reduceLT Int.reduceToNat Int.reduceNeg Int.reduceAdd Nat.le_refl List.length_append beq_true beq_false Bool.not_eq_eq_eq_not or_false false_or dJ ai aj aD bp bE cq aT bd aX bj cR bG
theorem gW {o:Id} {a:Nat} (h:o.site=a) {b v:Nat} (qM:(a==b)=false):(o=⟨b,v⟩)=False/\((⟨b,v⟩:Id)=o)=False:=by
 have h1:=AH h (v:=v) qM
 refine⟨h1,?_⟩
 simp only[eq_iff_iff,iff_false]at h1 ⊢
 exact fun h=>h1 h.symm
theorem wD (cnt:Nat) (vh:1<=cnt) (hn:cnt<=1048576) (bs:List PB) (hb:∀b∈bs,b.a<cnt/\b.b<cnt) (ql:bs.length<=1048576):aq Tryz.prog 320 [.int .i64 cnt,.sl (bs.map ay)] (.sl ((fy cnt (eD bs)).map A9)):=by
 intro n0
 refine H0 NZ rfl fun hl=>?_
 try simp only[q]
 clear hl
 have jQ:(0:Int)<=(cnt:Int):=by omega
 have qm:(cnt:Int)<=((16777216:Nat):Int):=by omega
 obtain⟨G,hG⟩:∃G:Nat->Id,G=fun k=>⟨320005004,n0+3+4*k+2⟩:=⟨_,rfl⟩
 have SP:∀k,(G k).site=320005004:=fun k=>by rw[hG]
 have Uk:∀k,(G k).ck=n0+3+4*k+2:=fun k=>by rw[hG]
 have Ui:∀i j,i≠j->(G i=G j)=False:=fun i j h=>by
  simp only[eq_iff_iff,iff_false]
  intro he
  have h1:=Uk i
  rw[he,Uk j]at h1
  omega
 have LD:∀i s v,(320005004==s)=false->(G i=⟨s,v⟩)=False:=fun i s v h=>AH (SP i) h
 have hz:=Hy G cnt
 (try((repeat(revert hN;revert N;apply Pn.out));refine wk (tw @jQ (tw @qm (tw @Int.le_refl @hz))) ?_;(repeat(refine Pn.mk ?_;intro N hN))))
 refine aU (fun n env st=>∃k:Nat,n=(cnt)-k/\k<=(cnt)/\env 21=.int .i64 (k:Int)/\st.get ⟨320001001,n0+1⟩=some ⟨true,1,mb G cnt k⟩/\(st.next=n0+3+4*k/\∀j:Nat,j<k->st.get (G j)=some ⟨true,2,[[.gT,.int .i64 (j:Int)]]⟩)) (cnt) ⟨0,by omega,by omega,sl @hz,sl @hz,⟨rfl,fun j hj=>by omega⟩⟩ ?_
 rintro n_a env_a st_a ⟨k,rfl,ale,a21,ag0,lZ⟩ dC
 have a0:=dC 0 (by kernel_rfl);have a1:=dC 1 (by kernel_rfl);have a5:=dC 5 (by kernel_rfl);have NP:=dC 19 (by kernel_rfl);have a20:=dC 20 (by kernel_rfl)
 simp only[go_sem, ↓reduceIte,Nat.reduceEqDiff,Nat.reduceAdd,Nat.reduceSub,Nat.reduceLeDiff,reduceCtorEq,hz]at a0 a1 a5 NP a20
 clear dC
 obtain⟨lZ,mc⟩:=lZ
 by_cases hk:(k:Int)<(cnt:Int)
 ·have cD:∀{e:Env} {gg:Rows} {nx:Nat},(e 21=.int .i64 (IntKind.i64.wrap ((k:Int)+1)))->(gg ⟨320001001,n0+1⟩=some ⟨true,1,mb G cnt (k+1)⟩)->(nx=n0+3+4*(k+1)/\∀j:Nat,j<(k+1)->gg (G j)=some ⟨true,2,[[.gT,.int .i64 (j:Int)]]⟩)->∃m0,m0<(cnt)-k/\∃k:Nat,m0=(cnt)-k/\k<=(cnt)/\e 21=.int .i64 (k:Int)/\gg ⟨320001001,n0+1⟩=some ⟨true,1,mb G cnt k⟩/\(nx=n0+3+4*k/\∀j:Nat,j<k->gg (G j)=some ⟨true,2,[[.gT,.int .i64 (j:Int)]]⟩):=fun x1 x2 x3=>⟨_,by omega,k+1,rfl,by omega,(by rw[x1,aA (by omega)]),x2,x3⟩
  have fA:k<cnt:=by omega
  have tl:=mO G cnt k
  have eE:=Kq (G:=G) fA
  have eR:(mb G cnt k)[k]? =some [.gT]:=by simp[mb,fA]
  have SN:(⟨320005004,st_a.next+1+1⟩:Id)=G k:=by rw[hG,lZ]
  have hGf:∀j,j<k->(G j=G k)=False:=fun j hj=>Ui j k (by omega)
  have z8:∀j,(G j=(⟨320001001,n0+1⟩:Id))=False:=fun j=>LD j _ _ (by decide)
  have DL:∀j,((⟨320001001,n0+1⟩:Id)=G j)=False:=fun j=>by
   have:=z8 j
   simp only[eq_iff_iff,iff_false]at this ⊢
   exact fun h=>this h.symm
  (try((repeat(revert hN;revert N;apply Pn.out));refine wk (tw @a21 (tw @ag0 (tw @a0 (tw @a1 (tw @a5 (tw @NP (tw @a20 (tw @hk (tw @tl (tw @SN (tw @z8 (tw @DL (tw @eE @eR))))))))))))) ?_;(repeat(refine Pn.mk ?_;intro N hN))))
  refine cD ?_ ?_ (by
   refine⟨by(try dsimp only)<;>omega,fun j hj=>?_⟩
   by_cases yP:j=k
   ·subst yP;simp only[go_sem, ↓reduceIte,Nat.reduceEqDiff,Nat.reduceAdd,Nat.reduceSub,Nat.reduceLeDiff,reduceCtorEq,SN,z8,DL]
   ·have hold:=mc j (by omega)
    have gZ:=hGf j (by omega)
    simp only[go_sem, ↓reduceIte,Nat.reduceEqDiff,Nat.reduceAdd,Nat.reduceSub,Nat.reduceLeDiff,reduceCtorEq,SN,z8,DL,gZ,hold])
  all_goals simp only[go_sem, ↓reduceIte,Nat.reduceEqDiff,Nat.reduceAdd,Nat.reduceSub,Nat.reduceLeDiff,reduceCtorEq,a21,ag0,a0,a1,a5,NP,a20,SN,z8,DL,eE]
 have mh:cnt=k:=by omega
 subst mh
 (try((repeat(revert hN;revert N;apply Pn.out));refine wk (tw @a21 (tw @ag0 (tw @a0 (tw @a1 (tw @a5 (tw @NP (tw @a20 @hk))))))) ?_;(repeat(refine Pn.mk ?_;intro N hN))))
 refine aU (fun n env st=>∃i:Nat,n=(bs.length)-i/\i<=(bs.length)/\env 33=.int .i64 (i:Int)/\st.get ⟨320001001,n0+1⟩=some ⟨true,1,mb G cnt cnt⟩/\(n0+3+4*cnt<=st.next)/\(∃px,nG cnt px (eD (bs.take i))/\ux st.get G cnt px)) (bs.length) ⟨0,by omega,by omega,sl (tw @a21 (tw @ag0 (tw @a0 (tw @a1 (tw @a5 (tw @NP @a20)))))),sl (tw @a21 (tw @ag0 (tw @a0 (tw @a1 (tw @a5 (tw @NP @a20)))))),(by(try dsimp only);omega),⟨fun _=>none,nG.start cnt,mc⟩⟩ ?_
 rintro n_b env_b st_b ⟨i,rfl,ble,uy,bg0,bI0,bI1⟩ gh
 have b0:=gh 0 (by kernel_rfl);have b1:=gh 1 (by kernel_rfl);have b5:=gh 5 (by kernel_rfl);have yp:=gh 31 (by kernel_rfl);have tQ:=gh 32 (by kernel_rfl)
 simp only[go_sem, ↓reduceIte,Nat.reduceEqDiff,Nat.reduceAdd,Nat.reduceSub,Nat.reduceLeDiff,reduceCtorEq,a21,ag0,a0,a1,a5,NP,a20]at b0 b1 b5 yp tQ
 clear gh
 obtain⟨px,K5,SO⟩:=bI1
 have tl:=mO G cnt cnt
 have Q1:∀j v,(G j=(⟨320009002,v⟩:Id))=False:=fun j v=>LD j _ v (by decide)
 have z8:∀j v,(G j=(⟨320001001,v⟩:Id))=False:=fun j v=>LD j _ v (by decide)
 have DL:∀j v,((⟨320001001,v⟩:Id)=G j)=False:=fun j v=>by
  have:=z8 j v
  simp only[eq_iff_iff,iff_false]at this ⊢
  exact fun h=>this h.symm
 have hGn:∀j,j<cnt->(G j).ck<st_b.next:=fun j hj=>by rw[Uk];omega
 by_cases hi:(i:Int)<(bs.length:Int)
 ·have gn:∀{e:Env} {gg:Rows} {nx:Nat},(e 33=.int .i64 (IntKind.i64.wrap ((i:Int)+1)))->(gg ⟨320001001,n0+1⟩=some ⟨true,1,mb G cnt cnt⟩)->(n0+3+4*cnt<=nx)->(∃px,nG cnt px (eD (bs.take (i+1)))/\ux gg G cnt px)->∃m0,m0<(bs.length)-i/\∃i:Nat,m0=(bs.length)-i/\i<=(bs.length)/\e 33=.int .i64 (i:Int)/\gg ⟨320001001,n0+1⟩=some ⟨true,1,mb G cnt cnt⟩/\(n0+3+4*cnt<=nx)/\(∃px,nG cnt px (eD (bs.take i))/\ux gg G cnt px):=fun x1 x2 x3 x4=>⟨_,by omega,i+1,rfl,by omega,(by rw[x1,aA (by omega)]),x2,x3,x4⟩
  have fw:i<bs.length:=by omega
  have ke:(bs.map ay)[i]? =some (ay bs[i]):=by simp[fw]
  have Gz:=hb _ (List.getElem_mem fw)
  have oh:bs.take (i+1)=bs.take i++[bs[i]]:=List.take_succ_eq_append_getElem fw
  have lO:eD (bs.take (i+1))=eP (eD (bs.take i)) bs[i]:=by rw[oh,wR]
  have hL:=uh (bs.take i)
  generalize eD (bs.take i)=L at *
  generalize bs[i]=b at *
  have gA:=xx (G:=G) Gz.1
  have gB:=xx (G:=G) Gz.2
  have gM:(b.a:Int)<(cnt:Int):=by omega
  have fR:(b.b:Int)<(cnt:Int):=by omega
  (try((repeat(revert hN;revert N;apply Pn.out));refine wk (tw @uy (tw @bg0 (tw @b0 (tw @b1 (tw @b5 (tw @yp (tw @tQ (tw @hi (tw @ke (tw @ay.eq_1 (tw @gA (tw @gB (tw @gM (tw @fR @tl)))))))))))))) ?_;(repeat(refine Pn.mk ?_;intro N hN))))
  refine KK (fun e s=>e 0=.int .i64 cnt/\e 1=.sl (bs.map ay)/\e 5=.own ⟨320001001,n0+1⟩ 0 cnt/\e 31=.sl (bs.map ay)/\e 32=.int .i64 bs.length/\e 33=.int .i64 i/\e 9=.ptr (G (L b.a)) 0 0/\e 10=.ptr (G (L b.b)) 0 0/\(∀j:Id,j.ck<st_b.next->s.get j=st_b.get j)/\st_b.next<=s.next) ?_ ?_
  ·rintro e1 s1 ⟨m0,m1,m5,m31,m32,m33,m9,m10,mf,mn⟩
   refine hN _ _ ?_
   clear hN N
   have mG:ux s1.get G cnt px:=SO.frame fun k hk=>mf _ (hGn k hk)
   have mt:=(mf ⟨320001001,n0+1⟩ (by(try dsimp only);omega)).trans bg0
   have UW:L b.a<cnt:=Nat.lt_of_le_of_lt (hL.le _) Gz.1
   have Ru:L b.b<cnt:=Nat.lt_of_le_of_lt (hL.le _) Gz.2
   have ra:=mG _ UW
   have rb:=mG _ Ru
   rw[lJ (K5.root hL UW (hL.idem _))]at ra
   rw[lJ (K5.root hL Ru (hL.idem _))]at rb
   have put:∀(g':Rows) (lo hi:Nat),hi<cnt->g' (G hi)=some ⟨true,2,[[.ptr (G lo) 0 0,.int .i64 (hi:Int)]]⟩->(∀k,k≠hi->k<cnt->g' (G k)=s1.get (G k))->ux g' G cnt (fun k=>if k=hi then some lo else px k):=fun g' lo hi _ h1 h2 k hk=>by
    by_cases K3:k=hi
    ·subst K3;rw[h1,ub (j:=lo) (if_pos rfl)]
    ·rw[h2 k K3 hk,mG k hk]
     unfold s8
     simp only[if_neg K3]
   rcases Nat.lt_trichotomy (L b.a) (L b.b)with dU|heq|dU
   ·have OO:(L b.a:Int)<(L b.b:Int):=by omega
    have hj:=K5.join hL b (by omega)
    rw[Nat.max_eq_right (by omega),Nat.min_eq_left (by omega),<-lO]at hj
    (try((repeat(revert hN;revert N;apply Pn.out));refine wk (tw @m0 (tw @m1 (tw @m5 (tw @m31 (tw @m32 (tw @m33 (tw @m9 (tw @m10 (tw @ra (tw @rb @OO)))))))))) ?_;(repeat(refine Pn.mk ?_;intro N hN))))
    refine gn ?_ ?_ (by(try dsimp only);omega) (⟨_,hj,put _ _ _ Ru (sd @Nat.zero_add) (fun k hk _=>by
     have gZ:=Ui k _ hk
     simp only[go_sem, ↓reduceIte,Nat.reduceEqDiff,Nat.reduceAdd,Nat.reduceSub,Nat.reduceLeDiff,reduceCtorEq,gZ])⟩)
    all_goals simp only[go_sem, ↓reduceIte,Nat.reduceEqDiff,Nat.reduceAdd,Nat.reduceSub,Nat.reduceLeDiff,reduceCtorEq,m0,m1,m5,m31,m32,m33,mt,z8,DL]
   ·have vh:¬(L b.a:Int)<(L b.b:Int):=by omega
    have HS:¬(L b.b:Int)<(L b.a:Int):=by omega
    have LZ:=Am heq
    rw[LZ]at lO
    (try((repeat(revert hN;revert N;apply Pn.out));refine wk (tw @m0 (tw @m1 (tw @m5 (tw @m31 (tw @m32 (tw @m33 (tw @m9 (tw @m10 (tw @ra (tw @rb (tw @vh @HS))))))))))) ?_;(repeat(refine Pn.mk ?_;intro N hN))))
    refine gn ?_ ?_ (by(try dsimp only);omega) (⟨_,lO▸K5,mG.frame fun k hk=>rfl⟩)
    all_goals simp only[go_sem, ↓reduceIte,Nat.reduceEqDiff,Nat.reduceAdd,Nat.reduceSub,Nat.reduceLeDiff,reduceCtorEq,m0,m1,m5,m31,m32,m33,mt]
   ·have OO:(L b.b:Int)<(L b.a:Int):=by omega
    have vh:¬(L b.a:Int)<(L b.b:Int):=by omega
    have hj:=K5.join hL b (by omega)
    rw[Nat.max_eq_left (by omega),Nat.min_eq_right (by omega),<-lO]at hj
    (try((repeat(revert hN;revert N;apply Pn.out));refine wk (tw @m0 (tw @m1 (tw @m5 (tw @m31 (tw @m32 (tw @m33 (tw @m9 (tw @m10 (tw @ra (tw @rb (tw @OO @vh))))))))))) ?_;(repeat(refine Pn.mk ?_;intro N hN))))
    refine gn ?_ ?_ (by(try dsimp only);omega) (⟨_,hj,put _ _ _ UW (sd @Nat.zero_add) (fun k hk _=>by
     have gZ:=Ui k _ hk
     simp only[go_sem, ↓reduceIte,Nat.reduceEqDiff,Nat.reduceAdd,Nat.reduceSub,Nat.reduceLeDiff,reduceCtorEq,gZ])⟩)
    all_goals simp only[go_sem, ↓reduceIte,Nat.reduceEqDiff,Nat.reduceAdd,Nat.reduceSub,Nat.reduceLeDiff,reduceCtorEq,m0,m1,m5,m31,m32,m33,mt,z8,DL]
  ·intro N hN
   refine fe ?_ ?_<;>(try((repeat(revert hN;revert N;apply Pn.out));refine wk (tw @uy (tw @bg0 (tw @b0 (tw @b1 (tw @b5 (tw @yp (tw @tQ (tw @hi (tw @ke (tw @ay.eq_1 (tw @gA (tw @gB (tw @gM (tw @fR @tl)))))))))))))) ?_;(repeat(refine Pn.mk ?_;intro N hN))))<;>(try refine fe ?_ ?_)<;>(try((repeat(revert hN;revert N;apply Pn.out));refine wk (tw @uy (tw @bg0 (tw @b0 (tw @b1 (tw @b5 (tw @yp (tw @tQ (tw @hi (tw @ke (tw @ay.eq_1 (tw @gA (tw @gB (tw @gM (tw @fR @tl)))))))))))))) ?_;(repeat(refine Pn.mk ?_;intro N hN))))<;>(try refine fe ?_ ?_)<;>(try((repeat(revert hN;revert N;apply Pn.out));refine wk (tw @uy (tw @bg0 (tw @b0 (tw @b1 (tw @b5 (tw @yp (tw @tQ (tw @hi (tw @ke (tw @ay.eq_1 (tw @gA (tw @gB (tw @gM (tw @fR @tl)))))))))))))) ?_;(repeat(refine Pn.mk ?_;intro N hN))))
   all_goals
    refine .inr (aC _ _ _ _ _ (fun r σ1 hq=>?_) (zV G cnt px L K5 b.a Gz.1 _ (SO.frame fun k hk=>sd @Q1)))
    obtain⟨g1,x1⟩:=σ1
    obtain⟨rfl,Bd,GH⟩:=hq
    (try dsimp only at Bd GH)
    subst Bd
    refine hN _ _ ?_
    clear hN N
    (try((repeat(revert hN;revert N;apply Pn.out));refine wk (tw @uy (tw @bg0 (tw @b0 (tw @b1 (tw @b5 (tw @yp (tw @tQ (tw @hi (tw @ke (tw @ay.eq_1 (tw @gA (tw @gB (tw @gM (tw @fR @tl)))))))))))))) ?_;(repeat(refine Pn.mk ?_;intro N hN))))
    refine .inr (aC _ _ _ _ _ (fun r σ1 hq=>?_) (zV G cnt px L K5 b.b Gz.2 _ (SO.frame fun k hk=>sd @Q1)))
    obtain⟨g1,x2⟩:=σ1
    obtain⟨rfl,Bd,nr⟩:=hq
    (try dsimp only at Bd nr)
    subst Bd
    refine hN _ _ ?_
    clear hN N
    (try((repeat(revert hN;revert N;apply Pn.out));refine wk (tw @uy (tw @bg0 (tw @b0 (tw @b1 (tw @b5 (tw @yp (tw @tQ (tw @hi (tw @ke (tw @ay.eq_1 (tw @gA (tw @gB (tw @gM (tw @fR @tl)))))))))))))) ?_;(repeat(refine Pn.mk ?_;intro N hN))))
    exact⟨sd (tw @uy (tw @bg0 (tw @b0 (tw @b1 (tw @b5 (tw @yp @tQ)))))),sd (tw @uy (tw @bg0 (tw @b0 (tw @b1 (tw @b5 (tw @yp @tQ)))))),sd (tw @uy (tw @bg0 (tw @b0 (tw @b1 (tw @b5 (tw @yp @tQ)))))),sd (tw @uy (tw @bg0 (tw @b0 (tw @b1 (tw @b5 (tw @yp @tQ)))))),sd (tw @uy (tw @bg0 (tw @b0 (tw @b1 (tw @b5 (tw @yp @tQ)))))),sd (tw @uy (tw @bg0 (tw @b0 (tw @b1 (tw @b5 (tw @yp @tQ)))))),sd (tw @uy (tw @bg0 (tw @b0 (tw @b1 (tw @b5 (tw @yp @tQ)))))),sd (tw @uy (tw @bg0 (tw @b0 (tw @b1 (tw @b5 (tw @yp @tQ)))))),fun j hj=>by
     have hv:=dr hj
     simp only[go_sem, ↓reduceIte,Nat.reduceEqDiff,Nat.reduceAdd,Nat.reduceSub,Nat.reduceLeDiff,reduceCtorEq,hv],by(try dsimp only);omega⟩
 have lK:i=bs.length:=by omega
 subst lK
 rw[List.take_length]at K5
 have hL:=uh bs
 generalize eD bs=L at *
 (try((repeat(revert hN;revert N;apply Pn.out));refine wk (tw @uy (tw @bg0 (tw @b0 (tw @b1 (tw @b5 (tw @yp (tw @tQ (tw @hi @tl)))))))) ?_;(repeat(refine Pn.mk ?_;intro N hN))))
 have l0:kZ 0 L=[]:=rfl
 have oS:(none:Option Nat).isSome=false:=rfl
 have oT:∀a:Nat,(some a).isSome=true:=fun _=>rfl
 refine aU (fun n env st=>∃x:Nat,n=(cnt)-x/\x<=(cnt)/\env 81=.int .i64 (x:Int)/\st.get ⟨320001001,n0+1⟩=some ⟨true,1,mb G cnt cnt⟩/\st.get ⟨320017000,st_b.next+1+1⟩=some ⟨true,mI.pQ,kZ x L⟩/\(st_b.next+3<=st.next/\ux st.get G cnt px)/\((x=0/\env 11=.bl)∨∃o:Id,env 11=.own o 0 (leads x L).length/\F4 st.get o (jT x L) st.next)) (cnt) ⟨0,by omega,by omega,sl (tw @uy (tw @bg0 (tw @b0 (tw @b1 (tw @b5 (tw @yp (tw @tQ @l0))))))),sl (tw @uy (tw @bg0 (tw @b0 (tw @b1 (tw @b5 (tw @yp (tw @tQ @l0))))))),sl (tw @uy (tw @bg0 (tw @b0 (tw @b1 (tw @b5 (tw @yp (tw @tQ @l0))))))),⟨by(try dsimp only);omega,SO.frame fun k hk=>by(have gZ:=LD k 320017000 (st_b.next+1+1) (by decide));simp only[go_sem, ↓reduceIte,Nat.reduceEqDiff,Nat.reduceAdd,Nat.reduceSub,Nat.reduceLeDiff,reduceCtorEq,gZ]⟩,.inl ⟨rfl,sd @Nat.zero_add⟩⟩ ?_
 rintro n_c env_c st_c ⟨x,rfl,cle,c81,cg0,cg1,cI0,cI1⟩ cfr
 have zM:=cfr 12 (by kernel_rfl);have Ln:=cfr 79 (by kernel_rfl);have Lo:=cfr 80 (by kernel_rfl)
 simp only[go_sem, ↓reduceIte,Nat.reduceEqDiff,Nat.reduceAdd,Nat.reduceSub,Nat.reduceLeDiff,reduceCtorEq,uy,bg0,b0,b1,b5,yp,tQ,l0]at zM Ln Lo
 clear cfr
 obtain⟨qO,QP⟩:=cI0
 have Oy:∀j v,(G j=(⟨320017000,v⟩:Id))=False:=fun j v=>LD j _ v (by decide)
 have Ot:∀j v,(G j=(⟨320025002,v⟩:Id))=False:=fun j v=>LD j _ v (by decide)
 have Ov:∀j v,(G j=(⟨320025001,v⟩:Id))=False:=fun j v=>LD j _ v (by decide)
 have Ow:∀j v,(G j=(⟨320026007,v⟩:Id))=False:=fun j v=>LD j _ v (by decide)
 have Ou:∀j v,(G j=(⟨320026008,v⟩:Id))=False:=fun j v=>LD j _ v (by decide)
 by_cases hx:(x:Int)<(cnt:Int)
 ·have im:∀{e:Env} {gg:Rows} {nx:Nat},(e 81=.int .i64 (IntKind.i64.wrap ((x:Int)+1)))->(gg ⟨320001001,n0+1⟩=some ⟨true,1,mb G cnt cnt⟩)->(gg ⟨320017000,st_b.next+1+1⟩=some ⟨true,mI.pQ,kZ (x+1) L⟩)->(st_b.next+3<=nx/\ux gg G cnt px)->(((x+1)=0/\e 11=.bl)∨∃o:Id,e 11=.own o 0 (leads (x+1) L).length/\F4 gg o (jT (x+1) L) nx)->∃m0,m0<(cnt)-x/\∃x:Nat,m0=(cnt)-x/\x<=(cnt)/\e 81=.int .i64 (x:Int)/\gg ⟨320001001,n0+1⟩=some ⟨true,1,mb G cnt cnt⟩/\gg ⟨320017000,st_b.next+1+1⟩=some ⟨true,mI.pQ,kZ x L⟩/\(st_b.next+3<=nx/\ux gg G cnt px)/\((x=0/\e 11=.bl)∨∃o:Id,e 11=.own o 0 (leads x L).length/\F4 gg o (jT x L) nx):=fun x1 x2 x3 x4 x5=>⟨_,by omega,x+1,rfl,by omega,(by rw[x1,aA (by omega)]),x2,x3,x4,x5⟩
  have Qy:x<cnt:=by omega
  have gX:=xx (G:=G) Qy
  have hlx:L x<cnt:=Nat.lt_of_le_of_lt (hL.le _) Qy
  have ra:=QP _ hlx
  rw[lJ (K5.root hL hlx (hL.idem _))]at ra
  have lL:=jW x L
  (try((repeat(revert hN;revert N;apply Pn.out));refine wk (tw @c81 (tw @cg0 (tw @cg1 (tw @zM (tw @Ln (tw @Lo (tw @hx (tw @gX @tl)))))))) ?_;(repeat(refine Pn.mk ?_;intro N hN))))
  refine .inr (aC _ _ _ _ _ (fun r σ1 hq=>?_) (zV G cnt px L K5 x Qy _ (QP.frame fun k hk=>sd @Nat.zero_add)))
  obtain⟨g1,x1⟩:=σ1
  obtain⟨rfl,Bd,GH⟩:=hq
  (try dsimp only at Bd GH)
  subst Bd
  refine hN _ _ ?_
  clear hN N
  by_cases hr:L x=x
  ·rw[hr]at ra ⊢
   have mi:=G0 hr
   have Tm:(leads (x+1) L).length=(leads x L).length+1:=by rw[gS,if_pos hr];simp
   have Qt:=Ec hr
   have Th:=DI hL hr
   rcases cI1 with⟨rfl,nW⟩|⟨o,nW,cS⟩
   ·have Vn:kZ 1 L=[[.int .i64 ((0:Nat):Int),.int .i64 ((0:Nat):Int)]]:=Qt
    (try((repeat(revert hN;revert N;apply Pn.out));refine wk (tw @c81 (tw @cg0 (tw @cg1 (tw @zM (tw @Ln (tw @Lo (tw @nW (tw @ra (tw @mi (tw @l0 (tw @oS (tw @oT (tw @Bool.not_false @Bool.not_true))))))))))))) ?_;(repeat(refine Pn.mk ?_;intro N hN))))
    refine im ?_ ?_ ?_ (by(try dsimp only);exact⟨by omega,QP.frame fun k hk=>sd (tw @Oy (tw @Ot (tw @Ou (tw @Ov @Ow))))⟩) (.inr ⟨⟨320025002,x1+1+1+1+1⟩,by simp only[go_sem, ↓reduceIte,Nat.reduceEqDiff,Nat.reduceAdd,Nat.reduceSub,Nat.reduceLeDiff,reduceCtorEq,Tm];rfl,by rw[Th];exact LB (v':=x1+1+1+1+1+1) (sd @Nat.zero_add) (sd @eN.eq_1) (by(try dsimp only);omega) (by(try dsimp only);omega)⟩)
    all_goals simp only[go_sem, ↓reduceIte,Nat.reduceEqDiff,Nat.reduceAdd,Nat.reduceSub,Nat.reduceLeDiff,reduceCtorEq,c81,cg0,cg1,zM,Ln,Lo,Vn]
   ·obtain⟨rows,rS,sO,kr⟩:=cS.new x
    rw[qK]at sO
    have x8:o.site=320025002:=by obtain⟨_,_,_,_,_,_,h,_⟩:=cS;exact h
    have vk:o.ck<x1:=by obtain⟨_,_,_,_,_,_,_,h⟩:=cS;omega
    have sP:=dr vk
    have RA:=gW (o:=o) x8 (b:=320017000) (v:=st_b.next+1+1) (by decide)
    have Qn:=gW (o:=o) x8 (b:=320001001) (v:=n0+1) (by decide)
    have Oz:∀k,(G k=o)=False:=fun k=>by simp only[eq_iff_iff,iff_false];intro h;have h1:=SP k;rw[h,x8]at h1;cases h1
    have te:(rows++[[AV.bl]])[(leads x L).length]? =some [.bl]:=by rw[<-sO];simp
    have C9:∀a:List AV,(rows++[[AV.bl]]).set (leads x L).length a=rows++[a]:=fun a=>by rw[<-sO];simp
    have e1:(leads x L).length+1<=16777216:=by omega
    have e2:((leads x L).length:Int)<(((leads x L).length+1:Nat):Int):=by omega
    (try((repeat(revert hN;revert N;apply Pn.out));refine wk (tw @c81 (tw @cg0 (tw @cg1 (tw @zM (tw @Ln (tw @Lo (tw @nW (tw @ra (tw @mi (tw @rS (tw @sO (tw @sP (tw @RA (tw @te (tw @C9 (tw @e1 (tw @e2 (tw @oS (tw @oT (tw @Bool.not_false @Bool.not_true)))))))))))))))))))) ?_;(repeat(refine Pn.mk ?_;intro N hN))))
    refine im ?_ ?_ ?_ (by(try dsimp only);exact⟨by omega,QP.frame fun k hk=>sd (tw @Oy (tw @Ot (tw @Ou (tw @Ov (tw @Ow @Oz)))))⟩) (.inr ⟨⟨320025002,x1+1+1+1+1⟩,sd @Tm,by rw[Th];exact kr _ _ (x1+1+1+1+1+1) _ (by omega) (by(try dsimp only);omega) (by(try dsimp only);omega) (sd @C9) (sd @eN.eq_1) (fun j hj hv=>by
     have q1:=dr (i:=j) (n:=x1) (by omega)
     have q2:=gW hj (b:=320017000) (v:=st_b.next+1+1) (by decide)
     have q3:(j=o)=False:=by simp only[eq_iff_iff,iff_false];intro h;rw[h,x8]at hj;cases hj
     simp only[go_sem, ↓reduceIte,Nat.reduceEqDiff,Nat.reduceAdd,Nat.reduceSub,Nat.reduceLeDiff,reduceCtorEq,q1,q2,q3])⟩)
    all_goals simp only[go_sem, ↓reduceIte,Nat.reduceEqDiff,Nat.reduceAdd,Nat.reduceSub,Nat.reduceLeDiff,reduceCtorEq,c81,cg0,cg1,zM,Ln,Lo,Qt,sP,RA,Qn]
  ·obtain⟨mi,Jk,dU⟩:=y6 hL hr
   obtain⟨Ro,Th⟩:=DJ hL hr
   have Tm:(leads (x+1) L).length=(leads x L).length:=by rw[gS,if_neg hr];simp
   have LZ:=Eb hr
   rcases cI1 with⟨rfl,nW⟩|⟨o,nW,cS⟩
   ·exact absurd (Nat.le_zero.1 (hL.le 0)) hr
   ·obtain⟨rows,id,rS,sO,hrk,hid,I9,hidv,UB⟩:=cS.add Ro x
    rw[qK]at sO
    have x8:o.site=320025002:=by obtain⟨_,_,_,_,_,_,h,_⟩:=cS;exact h
    have vk:o.ck<x1:=by obtain⟨_,_,_,_,_,_,_,h⟩:=cS;omega
    have sP:=dr vk
    have nP:=dr (i:=id) (n:=x1) (by omega)
    have ke:(cj L x:Int)<((leads x L).length:Int):=by omega
    have Rx:=Cq x L (L x)
    have hma:((members x L (L x)).map eN).length=(members x L (L x)).length:=by simp
    have e1:(members x L (L x)).length+1<=16777216:=by omega
    have Qo:(o=id)=False:=by simp only[eq_iff_iff,iff_false];rintro rfl;rw[I9]at x8;cases x8
    have Qj:(id=o)=False:=by simp only[eq_iff_iff,iff_false];rintro rfl;rw[I9]at x8;cases x8
    have RA:=gW (o:=o) x8 (b:=320017000) (v:=st_b.next+1+1) (by decide)
    have Qn:=gW (o:=o) x8 (b:=320001001) (v:=n0+1) (by decide)
    have hiM:=gW (o:=id) I9 (b:=320017000) (v:=st_b.next+1+1) (by decide)
    have hiT:=gW (o:=id) I9 (b:=320001001) (v:=n0+1) (by decide)
    have Oz:∀k,(G k=o)=False:=fun k=>by simp only[eq_iff_iff,iff_false];intro h;have h1:=SP k;rw[h,x8]at h1;cases h1
    have Uj:∀k,(G k=id)=False:=fun k=>by simp only[eq_iff_iff,iff_false];intro h;have h1:=SP k;rw[h,I9]at h1;cases h1
    (try((repeat(revert hN;revert N;apply Pn.out));refine wk (tw @c81 (tw @cg0 (tw @cg1 (tw @zM (tw @Ln (tw @Lo (tw @nW (tw @ra (tw @mi (tw @Jk (tw @rS (tw @sO (tw @hrk (tw @hid (tw @sP (tw @nP (tw @ke (tw @hma (tw @e1 (tw @Qo (tw @Qj (tw @RA (tw @Qn (tw @hiM (tw @hiT (tw @oS (tw @oT (tw @Bool.not_false @Bool.not_true)))))))))))))))))))))))))))) ?_;(repeat(refine Pn.mk ?_;intro N hN))))
    refine im ?_ ?_ ?_ (by(try dsimp only);exact⟨by omega,QP.frame fun k hk=>sd (tw @Oy (tw @Ot (tw @Ou (tw @Ov (tw @Ow (tw @Oz @Uj))))))⟩) (.inr ⟨o,sd (tw @Tm @nW),by rw[Th];exact UB _ (x1+1+1) _ (by omega) (by(try dsimp only);omega) (sd @Nat.zero_add) (sd (tw @sP (tw @nP (tw @Qo @Qj)))) (fun j hj hv mV=>by
     have q1:=dr (i:=j) (n:=x1) (by omega)
     have q2:=gW hj (b:=320017000) (v:=st_b.next+1+1) (by decide)
     have q3:(j=o)=False:=by simp only[eq_iff_iff,iff_false];intro h;rw[h,x8]at hj;cases hj
     simp only[go_sem, ↓reduceIte,Nat.reduceEqDiff,Nat.reduceAdd,Nat.reduceSub,Nat.reduceLeDiff,reduceCtorEq,q1,q2,q3,mV])⟩)
    all_goals simp only[go_sem, ↓reduceIte,Nat.reduceEqDiff,Nat.reduceAdd,Nat.reduceSub,Nat.reduceLeDiff,reduceCtorEq,c81,cg0,cg1,zM,Ln,Lo,LZ,sP,nP,RA,Qn,hiM,hiT]
 have Vv:x=cnt:=by omega
 rcases cI1 with⟨h0,_⟩|⟨o,nW,rows,ids,rS,hR,_,_,_,_⟩
 ·omega
 have sO:=hR.len
 rw[qK]at sO
 (try((repeat(revert hN;revert N;apply Pn.out));refine wk (tw @c81 (tw @cg0 (tw @cg1 (tw @zM (tw @Ln (tw @Lo (tw @hx (tw @nW @rS)))))))) ?_;(repeat(refine Pn.mk ?_;intro N hN))))
 refine xj (.inl rfl) (by simp only[go_sem, ↓reduceIte,Nat.reduceEqDiff,Nat.reduceAdd,Nat.reduceSub,Nat.reduceLeDiff,reduceCtorEq];rfl) ?_
 rw[uZ rS (by omega) (rows':=(fy cnt L).map A9) (by
  rw[List.drop_zero,List.take_of_length_le (by omega)]
  rw[Vv]at hR;exact JF 3 hR)]
theorem KL (b:PB) (t:Int):aq Tryz.prog 323 [.agg (ay b),.di [.int .i64 t]] (.bool (decide (b.s<t))):=by
 refine aq.body dX rfl fun hl n0=>?_
 clear hl
 (try((repeat(revert hN;revert N;apply Pn.out));refine wk @ay.eq_1 ?_;(repeat(refine Pn.mk ?_;intro N hN))))
 exact aW (b:=decide (b.s<t)) (.inl rfl) (sd @Nat.zero_add) rfl
theorem yV (bs:List PB) (t:Int) (hl:bs.length<=1048576):aq Tryz.prog 335 [.sl (bs.map ay),.fn 323 [.di [.int .i64 t]]] (.int .i64 (ko (fun b:PB=>decide (b.s<t)) bs)):=
 uf IA (show me Tryz.prog 335=some (tj 335 3 true) by kernel_rfl) bs hl 323 _ _ (fun x _=>KL x t) fun g=>by simp only[ai,aj,aX,Option.map_some]
theorem Iw (bs:List PB) (hp:0<bs.length) (hl:bs.length<=1048576) (σ:ar):
  Call Tryz.prog 322 [.sl (bs.map ay)] σ fun r σ'=>∃o:Id,r=.own o 0 bs.length/\σ'.get o=some ⟨true,3,bs.map ay⟩/\σ.next<=o.ck/\o.ck<σ'.next/\∀i:Id,i.ck<σ.next->σ'.get i=σ.get i:=by
 refine eL dX rfl fun hl=>?_
 clear hl
 have hz:=all_map (l:=bs) NF
 obtain⟨b,r,rfl⟩:∃b r,bs=b::r:=by
  cases bs with
  |nil=>simp at hp
  |cons b r=>exact⟨b,r,rfl⟩
 have lL:(List.map ay (b::r)).length=(b::r).length:=by simp
 have e1:r.length<=16777215:=by simp at hl;omega
 rw[List.map_cons]at hz lL ⊢
 (try((repeat(revert hN;revert N;apply Pn.out));refine wk (tw @hz (tw @lL @e1)) ?_;(repeat(refine Pn.mk ?_;intro N hN))))
 refine e9 (.inl rfl) (vs:=[.own ⟨322003002,σ.next+1+1⟩ 0 (b::r).length]) (by simp only[fu,iv,go_sem, ↓reduceIte,Nat.reduceEqDiff,Nat.reduceAdd,Nat.reduceSub,Nat.reduceLeDiff,reduceCtorEq,List.length_cons]) ⟨⟨322003002,σ.next+1+1⟩,rfl,sd @Nat.zero_add,by(try dsimp only);omega,by(try dsimp only);omega,fun i hi=>?_⟩
 have hv:=dr hi
 simp only[go_sem, ↓reduceIte,Nat.reduceEqDiff,Nat.reduceAdd,Nat.reduceSub,Nat.reduceLeDiff,reduceCtorEq,hv]
theorem pk {t:Int} {bs:List PB} {j:Nat} (hj:j<bs.length):aL t (bs.take (j+1))=aL t (bs.take j)++if decide (bs[j].s<t)=true then[]else[bs[j]]:=by
 rw[uu t bs j hj]
 congr 1
 by_cases h:bs[j].s<t
 ·rw[if_neg (by omega),if_pos (decide_eq_true h)]
 ·rw[if_pos (by omega),if_neg (by simp only[decide_eq_true_eq];exact h)]
theorem ur {t:Int} {bs:List PB} (h:∀b∈bs,¬b.s<t):aL t bs=bs:=by
 unfold aL
 rw[List.filter_eq_self]
 intro b hb
 have:=h b hb
 exact decide_eq_true (by omega)
structure uw (t:Int) (bs:List PB) (j:Nat) (R:List PB):Prop where
 len:R.length=bs.length
 pre:R.take (aL t (bs.take j)).length=aL t (bs.take j)
 post:∀x,j<=x->R[x]? =bs[x]?
 lt:(aL t (bs.take j)).length<j
theorem uw.start {t:Int} {bs:List PB} {i:Nat} (hi:i<bs.length) (hw:bs[i].s<t) (hp:∀x (h:x<i),¬bs[x].s<t):uw t bs (i+1) bs/\(aL t (bs.take (i+1))).length=i:=by
 have h1:aL t (bs.take i)=bs.take i:=ur fun b hb=>by
  obtain⟨x,hx,rfl⟩:=List.getElem_of_mem hb
  rw[List.length_take]at hx
  rw[List.getElem_take]
  exact hp x (by omega)
 have h2:aL t (bs.take (i+1))=bs.take i:=by rw[pk hi,if_pos (decide_eq_true hw),List.append_nil,h1]
 have h3:(bs.take i).length=i:=by rw[List.length_take];omega
 exact⟨⟨rfl,by rw[h2,h3],fun _ _=>rfl,by rw[h2,h3];omega⟩,by rw[h2,h3]⟩
theorem uw.Sr {t:Int} {bs R:List PB} {j:Nat} (h:uw t bs j R) (hj:j<bs.length) (hw:bs[j].s<t):uw t bs (j+1) R/\(aL t (bs.take (j+1))).length=(aL t (bs.take j)).length:=by
 have h2:aL t (bs.take (j+1))=aL t (bs.take j):=by rw[pk hj,if_pos (decide_eq_true hw),List.append_nil]
 exact⟨⟨h.len,by rw[h2];exact h.pre,fun x hx=>h.post x (by omega),by rw[h2];have:=h.lt;omega⟩,by rw[h2]⟩
theorem uw.qT {t:Int} {bs R:List PB} {j:Nat} (h:uw t bs j R) (hj:j<bs.length) (hw:¬bs[j].s<t):uw t bs (j+1) (R.set (aL t (bs.take j)).length bs[j])/\(aL t (bs.take (j+1))).length=(aL t (bs.take j)).length+1:=by
 have h2:aL t (bs.take (j+1))=aL t (bs.take j)++[bs[j]]:=by rw[pk hj,if_neg (by simp only[decide_eq_true_eq];exact hw)]
 have dU:=h.lt
 have hlen:=h.len
 have uG:=h.pre
 generalize hc:(aL t (bs.take j)).length=c at *
 refine⟨⟨by rw[List.length_set];exact hlen,?_,fun x hx=>?_,by rw[h2,List.length_append,hc];simp;omega⟩,by rw[h2,List.length_append,hc];rfl⟩
 ·rw[h2,List.length_append,hc,List.length_singleton,List.take_succ_eq_append_getElem (by rw[List.length_set];omega),List.getElem_set_self,List.take_set_of_le (Nat.le_refl _),uG]
 ·rw[List.getElem?_set_ne (by omega)];exact h.post x (by omega)
theorem uw.at_ {t:Int} {bs R:List PB} {j:Nat} (h:uw t bs j R) (hj:j<bs.length):(R.map ay)[j]? =some (ay bs[j]):=by
 rw[List.getElem?_map,h.post j (Nat.le_refl j),List.getElem?_eq_getElem hj];rfl
theorem Dx {p:PB->Bool} {bs:List PB} (h:¬0<=ko p bs):∀b∈bs,p b=false:=by
 intro b hb
 unfold ko at h
 split at h
 ·omega
 ·rename_i h1
  rw[List.findIdx_lt_length]at h1
  cases hp:p b
  ·rfl
  ·exact absurd ⟨b,hb,hp⟩ h1
theorem Dy {p:PB->Bool} {bs:List PB} (h:0<=ko p bs):∃i,∃hi:i<bs.length,ko p bs=(i:Int)/\p bs[i]=true/\∀x (hx:x<i),p (bs[x]'(by omega))=false:=by
 unfold ko at h ⊢
 split
 ·rename_i h1
  exact⟨bs.findIdx p,h1,rfl,List.findIdx_getElem,fun x hx=>by simpa using List.not_of_lt_findIdx hx⟩
 ·rename_i h1;rw[if_neg h1]at h;omega
theorem Gm (bs:List PB) (t:Int) (hl:bs.length<=1048576) (o T:Id) (σ:ar) (ho:σ.get o=some ⟨true,3,bs.map ay⟩) (hT:σ.get T=some ⟨true,1,[[.int .i64 t]]⟩) (vk:o.ck<σ.next) (SZ:T.ck<σ.next) (Qn:o≠T):
  Call Tryz.prog 321 [.own o 0 bs.length,.fn 323 [.ptr T 0 0]] σ fun r σ'=>∃rows,r=.own o 0 (aL t bs).length/\σ'.get o=some ⟨true,3,rows⟩/\rows.take (aL t bs).length=(aL t bs).map ay/\(aL t bs).length<=rows.length/\σ.next<=σ'.next/\∀i:Id,i.ck<σ.next->i≠o->σ'.get i=σ.get i:=by
 refine eL dX rfl fun kp=>?_
 clear kp
 have GF:=yV bs t hl
 have hzT:∀(g:Rows),g T=some ⟨true,1,[[.int .i64 t]]⟩->V.fz (dJ g) 5 (.ptr T 0 0)=some (.di [.int .i64 t]):=fun g hg=>wu (sz:=1) (rows:=[[.int .i64 t]]) (by simp[dJ,hg]) rfl (by simp only[List.drop_zero,ai,aj,aD,Option.map_some])
 have Bf:∀(g:Rows),g T=some ⟨true,1,[[.int .i64 t]]⟩->g o=some ⟨true,3,bs.map ay⟩->cJ (dJ g) 6 [.own o 0 bs.length,.fn 323 [.ptr T 0 0]]=some [.sl (bs.map ay),.fn 323 [.di [.int .i64 t]]]:=fun g h1 h2=>by
  have q1:=fM (g:=dJ g) (n:=5) (e:=ay) (sz:=3) (len:=bs.length) (l:=bs) (id:=o) (by simp[dJ,h2]) rfl fun b=>zW _ 4 b
  have q2:=hzT g h1
  simp only[ai,aj,q1,cR,List.all_cons,List.all_nil,AV.cell,Bool.and_true,if_true,q2,Option.map_some]
 have lu:∀(g:Rows),g T=some ⟨true,1,[[.int .i64 t]]⟩->∀b:PB,cJ (dJ g) 6 [.agg (ay b),.ptr T 0 0]=some [.agg (ay b),.di [.int .i64 t]]:=fun g h1 b=>by
  have q3:V.fz (dJ g) 6 (.ptr T 0 0)=some (.di [.int .i64 t]):=wu (sz:=1) (rows:=[[.int .i64 t]]) (by simp[dJ,h1]) rfl (by simp only[List.drop_zero,ai,aj,aD,Option.map_some])
  simp only[ai,aj,bd,zW,q3,Option.map_some]
 (try((repeat(revert hN;revert N;apply Pn.out));refine wk @Nat.zero_add ?_;(repeat(refine Pn.mk ?_;intro N hN))))
 refine .inl ⟨_,aq.x GF (Bf _ hT ho),?_⟩
 refine hN _ _ ?_
 clear hN N
 by_cases h0:0<=ko (fun b:PB=>decide (b.s<t)) bs
 ·obtain⟨i,hi,HP,hpi,LX⟩:=Dy h0
  rw[HP]at *
  have LQ:decide ((i:Int)= -1)=false:=decide_eq_false (by omega)
  have RS:IntKind.i64.wrap ((i:Int)+1)=((i+1:Nat):Int):=aA (by omega)
  obtain⟨dH,C9⟩:=uw.start (t:=t) hi (by simpa using hpi) (fun x hx=>by simpa using LX x hx)
  (try((repeat(revert hN;revert N;apply Pn.out));refine wk (tw @LQ @RS) ?_;(repeat(refine Pn.mk ?_;intro N hN))))
  refine aU (fun m env st=>∃(j:Nat) (R:List PB),m=bs.length-j/\env 6=.int .i64 (j:Int)/\env 5=.int .i64 ((aL t (bs.take j)).length:Int)/\st.get o=some ⟨true,3,R.map ay⟩/\uw t bs j R/\j<=bs.length/\σ.next<=st.next/\∀x:Id,x.ck<σ.next->(x=o)=False->st.get x=σ.get x) (bs.length-(i+1)) ⟨i+1,bs,rfl,sd @RS,sd @C9,sd @ho,dH,by omega,by(try dsimp only);omega,fun x _ _=>sd @Nat.zero_add⟩ ?_
  rintro m env_b st_b ⟨j,R,rfl,b6,b5,bg,hD,ig,hle,jG⟩ gh
  have b0:=gh 0 (by kernel_rfl)
  have b1:=gh 1 (by kernel_rfl)
  simp only[go_sem, ↓reduceIte,Nat.reduceEqDiff,Nat.reduceAdd,Nat.reduceSub,Nat.reduceLeDiff,reduceCtorEq]at b0 b1
  clear gh
  have bT:=(jG T SZ (by simp only[eq_iff_iff,iff_false];exact fun h=>Qn h.symm)).trans hT
  have qf:=dr (i:=o) (n:=st_b.next) (by omega)
  have Vr:=dr (i:=T) (n:=st_b.next) (by omega)
  have hRl:=hD.len
  have Ut:(R.map ay).length=bs.length:=by rw[List.length_map,hRl]
  have dU:=hD.lt
  by_cases hj:(j:Int)<(bs.length:Int)
  ·have iL:j<bs.length:=by omega
   have HN:=hD.at_ iL
   have Pa:=KL bs[j] t
   have Ty:IntKind.i64.wrap ((j:Int)+1)=((j+1:Nat):Int):=aA (by omega)
   have hD1:=hD.Sr iL
   have hD2:=hD.qT iL
   generalize bs[j]=b at *
   (try((repeat(revert hN;revert N;apply Pn.out));refine wk (tw @b0 (tw @b1 (tw @b5 (tw @b6 (tw @bg (tw @hj (tw @HN (tw @ay.eq_1 (tw @qf (tw @Vr @Ut)))))))))) ?_;(repeat(refine Pn.mk ?_;intro N hN))))
   refine .inl ⟨_,aq.x Pa (lu _ (sd (tw @Vr @bT)) b),?_⟩
   refine hN _ _ ?_
   clear hN N
   by_cases hw:b.s<t
   ·obtain⟨Ug,Uf⟩:=hD1 hw
    have hd:decide (b.s<t)=true:=decide_eq_true hw
    (try((repeat(revert hN;revert N;apply Pn.out));refine wk (tw @b0 (tw @b1 (tw @b5 (tw @b6 (tw @hd @Ty))))) ?_;(repeat(refine Pn.mk ?_;intro N hN))))
    refine⟨_,?_,j+1,R,rfl,sd @Ty,sd (tw @b5 @Uf),sd (tw @bg @qf),Ug,by omega,by(try dsimp only);omega,fun x hx HV=>?_⟩
    ·omega
    ·have Qu:=dr (i:=x) (n:=st_b.next) (by omega)
     have:=jG x hx HV
     simp only[go_sem, ↓reduceIte,Nat.reduceEqDiff,Nat.reduceAdd,Nat.reduceSub,Nat.reduceLeDiff,reduceCtorEq,Qu,this]
   ·obtain⟨Ug,Uf⟩:=hD2 hw
    have hd:decide (b.s<t)=false:=decide_eq_false hw
    have UD:((aL t (bs.take j)).length:Int)<(bs.length:Int):=by omega
    have hwc:IntKind.i64.wrap (((aL t (bs.take j)).length:Int)+1)=(((aL t (bs.take j)).length+1:Nat):Int):=aA (by omega)
    have eE:(R.map ay).set (aL t (bs.take j)).length [.int .i64 (b.a:Int),.int .i64 (b.b:Int),.int .i64 b.s]=(R.set (aL t (bs.take j)).length b).map ay:=by rw[List.map_set];rfl
    have Tg:∃y,(R.map ay)[(aL t (bs.take j)).length]? =some (ay y):=⟨R[(aL t (bs.take j)).length]'(by omega),by rw[List.getElem?_map,List.getElem?_eq_getElem (by omega)];rfl⟩
    obtain⟨y,Tg⟩:=Tg
    rw[ay]at Tg
    (try((repeat(revert hN;revert N;apply Pn.out));refine wk (tw @b0 (tw @b1 (tw @b5 (tw @b6 (tw @bg (tw @hd (tw @Ty (tw @hwc (tw @UD (tw @eE (tw @Tg (tw @qf (tw @Vr @Ut))))))))))))) ?_;(repeat(refine Pn.mk ?_;intro N hN))))
    refine⟨_,?_,j+1,_,rfl,sd @Ty,sd (tw @hwc @Uf),sd @eE,Ug,by omega,by(try dsimp only);omega,fun x hx HV=>?_⟩
    ·omega
    ·have Qu:=dr (i:=x) (n:=st_b.next) (by omega)
     have:=jG x hx HV
     simp only[go_sem, ↓reduceIte,Nat.reduceEqDiff,Nat.reduceAdd,Nat.reduceSub,Nat.reduceLeDiff,reduceCtorEq,Qu,this,HV]
  ·have ig:j=bs.length:=by omega
   subst ig
   have uG:=hD.pre
   rw[List.take_length]at b5 dU uG
   have UD:((aL t bs).length:Int)<=(bs.length:Int):=by omega
   have S8:(aL t bs).length<=bs.length:=by omega
   have qP:(aL t bs).length+(bs.length-(aL t bs).length)=bs.length:=by omega
   have C9:=nB t bs
   (try((repeat(revert hN;revert N;apply Pn.out));refine wk (tw @b0 (tw @b1 (tw @b5 (tw @b6 (tw @bg (tw @hj (tw @Ut (tw @UD (tw @S8 (tw @qP (tw @Nat.le_refl (tw @Nat.sub_zero (tw @Int.le_refl @qf))))))))))))) ?_;(repeat(refine Pn.mk ?_;intro N hN))))
   refine e9 (.inl rfl) (vs:=[.own o 0 (aL t bs).length]) (sd @Nat.zero_add) ⟨_,rfl,by simp only[go_sem, ↓reduceIte,Nat.reduceEqDiff,Nat.reduceAdd,Nat.reduceSub,Nat.reduceLeDiff,reduceCtorEq];rfl,?_,?_,by(try dsimp only);omega,fun x hx HV=>?_⟩
   ·have hm:List.take (aL t bs).length (List.map ay R)=(aL t bs).map ay:=by rw[<-List.map_take,uG]
    rw[hm,List.append_assoc,List.take_append_of_le_length (by simp),List.take_of_length_le (by simp)]
   ·have hm:List.take (aL t bs).length (List.map ay R)=(aL t bs).map ay:=by rw[<-List.map_take,uG]
    rw[hm]
    simp only[List.length_append,List.length_map]
    omega
   ·have RT:(x=o)=False:=by simp only[eq_iff_iff,iff_false];exact HV
    have:=jG x hx RT
    simp only[go_sem, ↓reduceIte,Nat.reduceEqDiff,Nat.reduceAdd,Nat.reduceSub,Nat.reduceLeDiff,reduceCtorEq,RT,this]
 ·have hn:=Dx h0
  have dH:=ur (t:=t) (bs:=bs) fun b hb=>by simpa using hn b hb
  have hd:decide (ko (fun b:PB=>decide (b.s<t)) bs= -1)=true:=decide_eq_true (by
   unfold ko at h0 ⊢
   split
   ·rename_i h;rw[if_pos h]at h0;omega
   ·rfl)
  (try((repeat(revert hN;revert N;apply Pn.out));refine wk @hd ?_;(repeat(refine Pn.mk ?_;intro N hN))))
  refine e9 (.inl rfl) (vs:=[.own o 0 bs.length]) (sd @Nat.zero_add) ⟨bs.map ay,by rw[dH];rfl,sd @ho,by rw[dH,List.take_of_length_le (by simp)],by rw[dH];simp,by(try dsimp only);omega,fun x _ _=>rfl⟩
end Go.Proofs.YtgoljkjaameagaaGreat.V

namespace Go.Proofs.YtgoljkjaameagaaGreat.V
open Go.RowKit Go.Shelf
attribute [local go_sem] Oper.semAt_some
structure p9 (W:World) (v:Value) (l:List ad):Prop where
 sl:∃A c,v=.slice A l.length c/\(l.length<=c/\c<=maxLen)/\(l=[]∨∃b o,A=some ⟨b,o,none⟩/\∀i,i<l.length->W.cell? ⟨b,o+(i*3+0),none⟩=some (.int .i64 (aJ l i).aO.eZ)/\W.cell? ⟨b,o+(i*3+1),none⟩=some (.int .i64 (aJ l i).aO.eU)/\W.cell? ⟨b,o+(i*3+2),none⟩=some (.int .i64 (aJ l i).aV))
structure H6 (K:World->World->Prop) (v:Value) (l:List ad):Prop where
 refl:∀W,K W W
 trans:∀{A B C:World},K A B->K B C->K A C
 of:∀{W W':World},Below W.heap.size W W'->K W W'
 size:∀{W W':World},K W W'->W.heap.size<=W'.heap.size
 typed:∀{W W':World},K W W'->∀(b:Nat) (cells:Array Value) (T:TypeId) (fr:Nat×Nat),W.heap[b]? =some (Obj.cells cells T fr)->T≠179->T≠254->W'.heap[b]? =W.heap[b]?
 pl:∀{W W':World},K W W'->p9 W v l->p9 W' v l
theorem uR {W:World} {b x:Nat} {v:Value} (h:W.cell? ⟨b,x,none⟩=some v):b<W.heap.size:=by
 rcases Nat.lt_or_ge b W.heap.size with h1|h1
 ·exact h1
 ·simp[World.cell?,Array.getElem?_eq_none h1]at h
theorem p9.below {W W':World} {v:Value} {l:List ad} (h:p9 W v l) (k:Below W.heap.size W W'):p9 W' v l:=by
 obtain⟨A,c,rfl,hm,hc⟩:=h.sl
 refine⟨A,c,rfl,hm,?_⟩
 rcases hc with h0|⟨b,o,rfl,kE⟩
 ·exact .inl h0
 ·refine .inr ⟨b,o,rfl,fun i hi=>?_⟩
  obtain⟨h1,h2,h3⟩:=kE i hi
  have hb:=uR h1
  exact⟨(k.cell (p:=⟨b,_,none⟩) hb).trans h1,(k.cell (p:=⟨b,_,none⟩) hb).trans h2,(k.cell (p:=⟨b,_,none⟩) hb).trans h3⟩
theorem p9.eO {P:Program} {W:World} {v:Value} {l:List ad} (h:p9 W v l):jM P W (fun b=>b<W.heap.size) (.sl (l.map aa)) v:=by
 obtain⟨A,c,rfl,hm,hc⟩:=h.sl
 rcases hc with rfl|⟨b,o,rfl,kE⟩
 ·exact .Bg A c (by simpa using hm.2)
 by_cases Ni:l=[]
 ·subst Ni;exact .Bg _ c (by simpa using hm.2)
 ·have kz:0<l.length:=List.length_pos_iff.2 Ni
  have hb:=uR (kE 0 kz).1
  refine .sl (l.map aa) b o l.length c 3 (fun i j=>if j=0 then .int .i64 (aJ l i).aO.eZ else if j=1 then .int .i64 (aJ l i).aO.eU else .int .i64 (aJ l i).aV) (by simp) hm.1 hm.2 hb (fun cs dt=>?_) (fun cs dt a ha=>?_) (fun i j hi hj=>?_) (fun i j cs a hi hj=>?_)
  ·obtain⟨x,_,rfl⟩:=List.mem_map.1 dt;rfl
  ·obtain⟨x,_,rfl⟩:=List.mem_map.1 dt
   simp[aa]at ha
   rcases ha with rfl|rfl|rfl<;>rfl
  ·obtain⟨h1,h2,h3⟩:=kE i hi
   match j,hj with
   |0,_=>exact h1
   |1,_=>exact h2
   |2,_=>exact h3
   |j+3,hj=>omega
  ·have lK:i<l.length:=by have:=(List.getElem?_eq_some_iff.1 hi).1;simpa using this
   rw[fx lK]at hi
   injection hi with hi
   subst hi
   match j,hj with
   |0,hj=>simp[aa]at hj;subst hj;exact .int _ _
   |1,hj=>simp[aa]at hj;subst hj;exact .int _ _
   |2,hj=>simp[aa]at hj;subst hj;exact .int _ _
   |j+3,hj=>simp[aa]at hj
theorem Bv {P:Program} (hm:P.follows .mixedOrders=true) {f:Nat} {args:List AV} {vs:Array Value} {w:World} {r:AV} (h:aq P f args r) (hr:∀g r0,gC g 6 r0=some r->r0=r) (hA:fm P w (fun b=>b<w.heap.size) (fun _=>none) args vs):
  Calls P f vs w fun e w'=>∃D ι u,e=.returned u/\cI P w' D ι r u/\Below w.heap.size w w':=by
 have hs:=gr hm (h 0) w.heap.size (fun b=>b<w.heap.size) (fun _=>none) w vs ⟨Nat.le_refl _,fun _ h=>h,fun id r h=>(by cases h),fun id j6 r r' B B' h=>(by cases h)⟩ (fun id h=>absurd rfl h) hA
 refine hs.mono ?_
 rintro e w' ⟨r0,g',n',D',ι',u,rfl,⟨r',hz,rfl⟩,dH,hsim,_,_,gN⟩
 have:=hr _ _ hz
 subst this
 exact⟨D',ι',u,rfl,gN,dH.below⟩
theorem oV {g:Rows} {n:Nat} {a:AV} {k:IntKind} {m:Int} (h:gC g (n+1) a=some (.int k m)):a=.int k m:=by
 cases a<;>rw[gC]at h<;>simp_all
 all_goals (repeat' (split at h))<;>simp_all
theorem DH {g:Rows} {a:AV} {x y:Int} (h:gC g 6 a=some (.agg [.int .i64 x,.int .i64 y])):a=.agg [.int .i64 x,.int .i64 y]:=by
 cases a with
 |agg cs=>
  rw[uY]at h
  simp only[Option.map_eq_some_iff,AV.agg.injEq,exists_eq_right]at h
  match cs,h with
  |[],h=>rw[cw]at h;simp at h
  |[a],h=>
   rw[bB,cw]at h
   cases ha:gC g 5 a<;>simp[ha]at h
  |[a,b],h=>
   rw[bB,bB,cw]at h
   cases ha:gC g 5 a<;>cases hb:gC g 5 b<;>simp[ha,hb]at h
   obtain⟨rfl,rfl⟩:=h
   rw[oV ha,oV hb]
  |a::b::c::r,h=>
   rw[bB,bB,bB]at h
   cases ha:gC g 5 a<;>cases hb:gC g 5 b<;>cases hc:gC g 5 c<;>cases hd:ez g 5 r<;>simp[ha,hb,hc,hd]at h
 |_=>rw[gC]at h<;>simp_all<;>(repeat' (split at h))<;>simp_all
theorem EF (W:World) (p:aI) (d:Int) (hd:ja d 0 3=true) (hx:iB p.eZ) (hy:iB p.eU):Calls Tryz.prog 228 #[.agg #[.int .i64 p.eZ,.int .i64 p.eU],.int .i64 d] W fun e W'=>e=.returned (.agg #[.int .i64 (dx p d).eZ,.int .i64 (dx p d).eU])/\Below W.heap.size W W':=by
 refine(Bv mixed (EH p d hd hx hy) (fun g r0 h=>DH h) ?_:Calls _ _ _ _ _).mono ?_
 ·exact mJ (vs:= #[.int .i64 d]) (.agg _ _ (fun j=>if j=0 then .int .i64 p.eZ else .int .i64 p.eU) rfl (fun a ha=>by simp[ae]at ha;rcases ha with rfl|rfl<;>rfl) (fun j hj=>by match j,hj with|0,_=>rfl|1,_=>rfl|j+2,hj=>simp[ae]at hj;omega) (fun j a ha=>by match j,ha with|0,ha=>simp[ae]at ha;subst ha;exact .int _ _|1,ha=>simp[ae]at ha;subst ha;exact .int _ _|j+2,ha=>simp[ae]at ha)) (mJ (vs:= #[]) (.int _ _) xf)
 ·rintro e W' ⟨D,ι,u,rfl,hr,hB⟩
  refine⟨?_,hB⟩
  obtain⟨vs,f,rfl,fo,_,h1,h2⟩:=iR hr
  have v0:=h1 0 (by simp[ae])
  have v1:=h1 1 (by simp[ae])
  rw[dq (h2 0 _ rfl)]at v0
  rw[dq (h2 1 _ rfl)]at v1
  obtain⟨vl⟩:=vs
  match vl,fo with
  |[a,b],_=>
   simp at v0 v1
   rw[v0,v1]
theorem yf (W:World) (l:List ad) (v:Value) (hP:p9 W v l) (p:aI) (hR:nS l) (Gw:l.length<=1048576):Calls Tryz.prog 303 #[.agg #[v],.agg #[.int .i64 p.eZ,.int .i64 p.eU]] W fun e W'=>e=.returned (.int .i64 (eF l p))/\Below W.heap.size W W':=by
 refine(Bv mixed (Hf l p hR Gw) (fun g r0 h=>oV h) ?_:Calls _ _ _ _ _).mono ?_
 ·exact mJ (vs:= #[.agg #[.int .i64 p.eZ,.int .i64 p.eU]]) (.agg _ _ (fun _=>v) rfl (fun a ha=>by simp at ha;rw[ha];rfl) (fun j hj=>by match j,hj with|0,_=>rfl|j+1,hj=>simp at hj) (fun j a ha=>by match j,ha with|0,ha=>simp at ha;subst ha;exact hP.eO|j+1,ha=>simp at ha)) (mJ (vs:= #[]) (.agg _ _ (fun j=>if j=0 then .int .i64 p.eZ else .int .i64 p.eU) rfl (fun a ha=>by simp[ae]at ha;rcases ha with rfl|rfl<;>rfl) (fun j hj=>by match j,hj with|0,_=>rfl|1,_=>rfl|j+2,hj=>simp[ae]at hj;omega) (fun j a ha=>by match j,ha with|0,ha=>simp[ae]at ha;subst ha;exact .int _ _|1,ha=>simp[ae]at ha;subst ha;exact .int _ _|j+2,ha=>simp[ae]at ha)) xf)
 ·rintro e W' ⟨D,ι,u,rfl,hr,hB⟩
  exact⟨by rw[dq hr],hB⟩
theorem grown_of {W W':World} (h:Below W.heap.size W W'):W.grownBy W' none:=⟨h.os,h.tape,h.output,h.size,fun k hk _=>h.block k hk⟩
def Cw (l:List ad) (i:Nat) (d:Int):List (Nat×Nat×Int):=if 0<=eF l (dx (aJ l i).aO d)then[(i,(eF l (dx (aJ l i).aO d)).toNat,d)]else[]
def k7 (l:List ad) (i m:Nat):List (Nat×Nat×Int):=(List.range m).flatMap fun j:Nat=>Cw l i (1-(j:Int))
def lz (l:List ad) (n:Nat):List (Nat×Nat×Int):=(List.range n).flatMap fun i=>k7 l i 2
theorem mH (l:List ad) (n:Nat):lz l (n+1)=lz l n++k7 l n 2:=by simp[lz,List.range_succ]
theorem nw (l:List ad) (i m:Nat):k7 l i (m+1)=k7 l i m++Cw l i (1-(m:Int)):=by simp[k7,List.range_succ]
theorem Pm (l:List ad) {k m:Nat} (hk:k<l.length) (hm:m<=2):lz l k++k7 l k m <+:lz l l.length:=by
 have h1:∀d,lz l k <+:lz l (k+d):=fun d=>by
  induction d with
  |zero=>exact List.prefix_refl _
  |succ d ih=>rw[<-Nat.add_assoc,mH l (k+d)];exact ih.trans (List.prefix_append _ _)
 have h2:∀d,lz l (k+1) <+:lz l (k+1+d):=fun d=>by
  induction d with
  |zero=>exact List.prefix_refl _
  |succ d ih=>rw[<-Nat.add_assoc,mH l (k+1+d)];exact ih.trans (List.prefix_append _ _)
 have h3:=h2 (l.length-(k+1))
 rw[show k+1+(l.length-(k+1))=l.length by omega,mH]at h3
 refine List.IsPrefix.trans ?_ h3
 have h4:k7 l k m <+:k7 l k 2:=by
  have:m=0∨m=1∨m=2:=by omega
  rcases this with rfl|rfl|rfl
  ·exact List.nil_prefix
  ·rw[nw l k 1];exact List.prefix_append _ _
  ·exact List.prefix_refl _
 exact(List.prefix_append_right_inj _).2 h4
def QI (l:List ad) (x:Nat×Nat×Int):Prop:=x.1<l.length/\x.2.1<l.length/\(0<=x.2.2/\x.2.2<=1)
def Fh (x:Nat×Nat×Int):Array Value:= #[.agg #[.int .i64 (x.1:Int),.int .i64 (x.2.1:Int)],.int .i64 x.2.2]
theorem L5 (l:List ad) (p:aI) (h:0<l.length:=by omega):eF l p<(l.length:Int):=by
 unfold eF
 split<;>omega
theorem Sa (l:List ad) (hA:jL l) (q Ba:Nat) (vS:Value) (K:World->World->Prop) (kl:H6 K vS l) (J Jx:List (Nat×Nat×Int)->World->Prop) (n:Nat) (hn:1<=n)
  (hY:∀pre x W,J pre W->pre.length<(lz l l.length).length->QI l x->YieldAt Fence.wide (n-1) Tryz.prog q (Fh x) W fun e W'=>
   (e=.returned (.bool true)/\J (pre++[x]) W'/\K W W')∨(e=.returned (.bool false)/\Jx (pre++[x]) W'))
  (W:World) (hJ:AbidesFrom W.heap.size J) (Oo:W.heap[Ba]? =some (.cells #[vS] 42 (0,0))) (hP:p9 W vS l) (h0:J [] W):
  CallsIn Fence.wide n Tryz.prog 302 #[.func (.yield q) #[] #[],.pointer (some ⟨Ba,0,none⟩)] W fun e W'=>(∃v,e=.returned v)/\
   ((∃ys,ys=lz l l.length/\J ys W')∨(∃pre,pre <+:lz l l.length/\Jx pre W')):=by
 obtain⟨A,cp,rfl,_,_⟩:=hP.sl
 refine callsIn_of_wp Tryz.func302 rfl trivial ?_ rfl
 simp only[Tryz.ntmps302,List.size_toArray,List.length_cons,List.length_nil,Nat.reduceAdd,Nat.reduceSub,Array.replicate_succ,Array.replicate_zero,List.push_toArray,List.append_toArray,List.nil_append,List.cons_append]
 have jQ:W.cell? ⟨Ba,0,none⟩=some (.slice A l.length cp):=by simp[World.cell?,Oo]
 gi_wp2
 gi_loopw [11] (fun i wr=>∃k:Nat,k<=l.length/\i=.int .i64 k/\J (lz l k) wr/\K W wr)
  (fun i _=>l.length-(intOf i).toNat)
 case atStart=>exact⟨0,Nat.zero_le _,rfl,h0,kl.refl _⟩
 case round=>
  obtain⟨k,hk,rfl,hJs,hKt⟩:=hrel
  by_cases dU:k<l.length
  ·have dt:∃b o,A=some ⟨b,o,none⟩/\wr.cell? ⟨b,o+k*3,none⟩=some (.int .i64 (aJ l k).aO.eZ)/\wr.cell? ⟨b,o+k*3+1,none⟩=some (.int .i64 (aJ l k).aO.eU)/\wr.cell? ⟨b,o+k*3+2,none⟩=some (.int .i64 (aJ l k).aV):=by
    obtain⟨A',c',hv,_,hc⟩:=(kl.pl hKt hP).sl
    cases hv
    rcases hc with rfl|⟨b,o,rfl,kE⟩
    ·simp at dU
    ·obtain⟨h1,h2,h3⟩:=kE k dU
     exact⟨b,o,rfl,by simpa using h1,by rw[Nat.add_assoc];exact h2,by rw[Nat.add_assoc];exact h3⟩
   obtain⟨b,o,rfl,hx,hy',ht⟩:=dt
   gi_wp2
   obtain⟨W2,Q6⟩:∃W2,(wr.alloc (.cells #[.int .i64 (aJ l k).aO.eZ,.int .i64 (aJ l k).aO.eU,.int .i64 (aJ l k).aV] 171)).alloc (.cells #[.int .i64 1,.int .i64 0] 2)=W2:=⟨_,rfl⟩
   have qc:Below wr.heap.size wr W2:=by rw[<-Q6];exact((Below.refl _ wr).alloc (Nat.le_refl _) _).alloc (by simp) _
   have Um:W2.heap[wr.heap.size]? =some (.cells #[.int .i64 (aJ l k).aO.eZ,.int .i64 (aJ l k).aO.eU,.int .i64 (aJ l k).aV] 171 (0,0)):=by
    rw[<-Q6,Below.heap_alloc _ _ _ (by simp)];exact World.alloc_heap_new _ _
   have Ul:W2.heap[wr.heap.size+1]? =some (.cells #[.int .i64 1,.int .i64 0] 2 (0,0)):=by
    have:=World.alloc_heap_new (wr.alloc (.cells #[.int .i64 (aJ l k).aO.eZ,.int .i64 (aJ l k).aO.eU,.int .i64 (aJ l k).aV] 171)) (.cells #[.int .i64 1,.int .i64 0] 2)
    rw[World.size_alloc]at this
    rw[<-Q6];exact this
   have OB:K W W2:=kl.trans hKt (kl.of qc)
   have hJ2:J (lz l k++k7 l k 0) W2:=by
    have:=hJ _ _ _ none hJs (grown_of qc) (fun r h=>by cases h)
    simpa[k7]using this
   rw[Q6]
   clear Q6
   generalize wr=w1 at *
   gi_loopw [18] (fun j wr=>∃m:Nat,m<=2/\j=.int .i64 m/\J (lz l k++k7 l k m) wr/\K W2 wr)
    (fun j _=>2-(intOf j).toNat)
   case atStart=>exact⟨0,by omega,rfl,hJ2,kl.refl _⟩
   case round=>
    obtain⟨m,hm,rfl,hJm,M8⟩:=hrel
    have hm0:m=0∨m=1∨m=2:=by omega
    by_cases HQ:m<2
    ·have hkd:=kl.typed M8 _ _ _ _ Ul (by decide) (by decide)
     have LO:=kl.typed M8 _ _ _ _ Um (by decide) (by decide)
     have hka:=kl.typed (kl.trans OB M8) _ _ _ _ Oo (by decide) (by decide)
     have cd:wr.cell? ⟨w1.heap.size+1,m,none⟩=some (.int .i64 (1-(m:Int))):=by
      rw[World.cell?_of_block hkd]
      rcases hm0 with rfl|rfl|rfl
      ·simp[World.cell?,Ul]
      ·simp[World.cell?,Ul]
      ·omega
     have ct0:wr.cell? ⟨w1.heap.size,0,none⟩=some (.int .i64 (aJ l k).aO.eZ):=by rw[World.cell?_of_block LO];simp[World.cell?,Um]
     have ct1:wr.cell? ⟨w1.heap.size,1,none⟩=some (.int .i64 (aJ l k).aO.eU):=by rw[World.cell?_of_block LO];simp[World.cell?,Um]
     have ca:wr.cell? ⟨Ba,0,none⟩=some (.slice (some ⟨b,o,none⟩) l.length cp):=by rw[World.cell?_of_block hka];simp[World.cell?,Oo]
     have hPw:p9 wr (.slice (some ⟨b,o,none⟩) l.length cp) l:=kl.pl (kl.trans OB M8) hP
     have hba:Ba<wr.heap.size:=by
      have h1:=(Array.getElem?_eq_some_iff.1 Oo).1
      have h2:=kl.size (kl.trans OB M8)
      omega
     have hdm:ja (1-(m:Int)) 0 3=true:=kV (by omega)
     have RB:=tz (hA.pt dU)
     have Qt:=fun w0=>EF w0 (aJ l k).aO (1-(m:Int)) hdm RB.1 RB.2
     have hPd:p9 wr.drew (.slice (some ⟨b,o,none⟩) l.length cp) l:=hPw.below ⟨rfl,rfl,rfl,Nat.le_refl _,fun _ _=>rfl⟩
     have cad:wr.drew.cell? ⟨Ba,0,none⟩=some (.slice (some ⟨b,o,none⟩) l.length cp):=ca
     have ctd0:wr.drew.cell? ⟨w1.heap.size,0,none⟩=some (.int .i64 (aJ l k).aO.eZ):=ct0
     have ctd1:wr.drew.cell? ⟨w1.heap.size,1,none⟩=some (.int .i64 (aJ l k).aO.eU):=ct1
     have hfw:=hA.rP
     have Ru:=hA.Hl
     have UZ:=mixed
     gi_wp2
     gi_region_with_o (first|(refine⟨trivial,?_⟩;gi_at_call 228;refine(callsIn_wide.2 (Qt _)).mono ?_;rintro e w3 ⟨rfl,BS⟩;have ca3:=(BS.cell (p:=⟨Ba,0,none⟩) hba).trans cad)|(refine⟨trivial,?_⟩;gi_at_call 303;refine(callsIn_wide.2 (yf _ l _ (hPd.below BS) (dx (aJ l k).aO (1-(m:Int))) Ru (by omega))).mono ?_;rintro e w4 ⟨rfl,hB4⟩))
     all_goals
      have On:Below wr.heap.size wr w4:=(show Below wr.heap.size wr wr.drew from⟨rfl,rfl,rfl,Nat.le_refl _,fun _ _=>rfl⟩).trans (BS.trans (hB4.mono BS.size))
      have hJ4:J (lz l k++k7 l k m) w4:=hJ _ _ _ none hJm (grown_of On) (fun r h=>by cases h)
      have uG:=Pm l dU (m:=m+1) (by omega)
      rw[nw,<-List.append_assoc]at uG
      have qO:=nw l k m
      have hw:wrap64 ((m:Int)+1)=((m+1:Nat):Int):=by unfold wrap64;omega
      by_cases Ad:0<=eF l (dx (aJ l k).aO (1-(m:Int)))
      ·have fw:((eF l (dx (aJ l k).aO (1-(m:Int)))).toNat:Int)=eF l (dx (aJ l k).aO (1-(m:Int))):=by omega
       rw[Cw,if_pos Ad]at uG qO
       obtain⟨fn,tmps,assign,body,hy,hR⟩:=hY _ (k,(eF l (dx (aJ l k).aO (1-(m:Int)))).toNat,1-(m:Int)) w4 hJ4 (by
        have:=uG.length_le
        simp only[List.length_append,List.length_cons,List.length_nil]at this ⊢
        omega) ⟨dU,by
        have:eF l (dx (aJ l k).aO (1-(m:Int)))<(l.length:Int):=L5 _ _
        show(eF l (dx (aJ l k).aO (1-(m:Int)))).toNat<l.length
        omega,by show 0<=1-(m:Int);omega,by show 1-(m:Int)<=1;omega⟩
       simp only[Fh,fw]at hy
       gi_wp2
       refine hR.mono ?_
       rintro e W3 (⟨rfl,hJ3,hk3⟩|⟨rfl,hJx3⟩)
       ·gi_wp2
        go_roundw
        case rel=>exact⟨m+1,by omega,by simp,by rw[qO,<-List.append_assoc];exact hJ3,kl.trans (kl.trans M8 (kl.of On)) hk3⟩
        case measure=>simp[intOf];omega
       ·gi_wp2
        refine bodyPost_ret (results_none rfl _ _ _) rfl ?_
        exact⟨⟨_,rfl⟩,.inr ⟨_,uG,hJx3⟩⟩
      ·rw[Cw,if_neg Ad,List.append_nil]at qO
       gi_wp2
       refine⟨fun _ h=>(by cases h),?_⟩
       gi_wp2
       go_roundw
       case rel=>exact⟨m+1,by omega,by simp,by rw[qO];exact hJ4,kl.trans M8 (kl.of On)⟩
       case measure=>simp[intOf];omega
    ·obtain rfl:m=2:=by omega
     have hfw:=hA.rP
     gi_wp2
     go_roundw
     case rel=>exact⟨k+1,by omega,by simp,by rw[mH];exact hJm,kl.trans OB M8⟩
     case measure=>simp[intOf];omega
  ·obtain rfl:k=l.length:=by omega
   gi_wp2
   go_end0
   exact⟨⟨_,rfl⟩,.inl ⟨_,rfl,hJs⟩⟩
theorem Av (n:Nat) (vS:Value) (w:World):CallsIn Fence.wide n Tryz.prog 260 #[.agg #[vS]] w fun e w'=>e=.returned (.func (.func 302) #[] #[.pointer (some ⟨w.heap.size,0,none⟩)])/\w'=w.alloc (.cells #[vS] 42):=by
 refine callsIn_of_wp Tryz.func260 rfl trivial ?_ rfl
 simp only[Tryz.ntmps260,List.size_toArray,List.length_cons,List.length_nil,Nat.reduceAdd,Nat.reduceSub,Array.replicate_succ,Array.replicate_zero,List.push_toArray,List.append_toArray,List.nil_append,List.cons_append]
 gi_wp2
 go_ret
 exact⟨rfl,rfl⟩
abbrev NK (l:List ad):Type:={x:Nat×Nat×Int // QI l x}
theorem JL (l:List ad) (hA:jL l) (Ba n:Nat) (hn:1<=n) (vS:Value) (K:World->World->Prop) (kl:H6 K vS l) (w:World) (Oo:w.heap[Ba]? =some (.cells #[vS] 42 (0,0))) (hP:p9 w vS l):
  SeqStopsK Fence.wide n Tryz.prog 302 #[.pointer (some ⟨Ba,0,none⟩)] (fun x:NK l=>Fh x.1) K (fun ys=>ys.map (·.1)=lz l l.length) (fun _=>True) (lz l l.length).length w:=fun q J Jx W hW hJ _ hY h0=>by
 refine(Sa l hA q Ba vS K kl (fun ys W=>∃zs:List (NK l),zs.map (·.1)=ys/\J zs W) (fun ys W=>∃zs:List (NK l),zs.map (·.1)=ys/\Jx zs W) n hn (fun pre x W1 hJ1 dU wK=>?_) W (fun s A B row ⟨zs,e,h⟩ hg hr=>⟨zs,e,hJ zs A B row h hg hr⟩) ((hW.block Ba (Array.getElem?_eq_some_iff.1 Oo).1).trans Oo) (hP.below hW) ⟨[],rfl,h0⟩).mono ?_
 ·obtain⟨zs,rfl,h1⟩:=hJ1
  refine YieldAt.mono (hY zs ⟨x,wK⟩ W1 h1 (by simpa using dU)) ?_
  rintro e W' (⟨h2,h3,h4⟩|⟨h2,h3⟩)
  ·exact .inl ⟨h2,⟨zs++[⟨x,wK⟩],by simp,h3⟩,h4⟩
  ·exact .inr ⟨h2,⟨zs++[⟨x,wK⟩],by simp,h3⟩⟩
 ·rintro e W' ⟨h1,⟨ys,rfl,zs,h2,h3⟩|⟨pre,_,zs,h2,h3⟩⟩
  ·exact⟨h1,.inl ⟨zs,h2,h3⟩⟩
  ·exact⟨h1,.inr ⟨zs,trivial,h3⟩⟩
def zL (s:aw) (l:List ad) (x:Nat×Nat×Int):List PB:=if 0<gV s (aJ l x.1).aV x.2.2 (aJ l x.2.1).aV then[⟨x.1,x.2.1,gV s (aJ l x.1).aV x.2.2 (aJ l x.2.1).aV⟩]else[]
theorem It (s:aw) (l:List ad):cL s l=(lz l l.length).flatMap (zL s l):=by
 have h1:∀i d,nk s l i d=(Cw l i d).flatMap (zL s l):=fun i d=>by
  unfold nk Cw
  by_cases h:0<=eF l (dx (aJ l i).aO d)
  ·rw[if_pos h]
   simp only[List.flatMap_cons,List.flatMap_nil,List.append_nil,zL]
   by_cases h2:0<gV s (aJ l i).aV d (aJ l (eF l (dx (aJ l i).aO d)).toNat).aV
   ·rw[if_pos ⟨h,h2⟩,if_pos h2]
   ·rw[if_neg fun hc=>h2 hc.2,if_neg h2]
  ·rw[if_neg h,if_neg fun hc=>h hc.1];rfl
 unfold cL gQ lz
 rw[List.flatMap_assoc]
 congr 1
 funext i
 unfold gi k7
 rw[List.flatMap_assoc]
 congr 1
 funext j
 exact h1 i _
end Go.Proofs.YtgoljkjaameagaaGreat.V

namespace Go.Proofs.YtgoljkjaameagaaGreat.V
open Go.RowKit
attribute [local irreducible] dI wpOps gy Call
attribute [local go_sem] aM fG eQ fZ fY cQ upd cC K.av cP AV.cells AV.cell rowOf rowsOf part ld rowAt bt cu dE ee ik bJ dh ew fX eX dp ej dd dc dQ dR bQ bf cW bP cY cX eh ek ei cV b4 de ef bK aP da cG ij bw cK bU aY dn bc dF AV.undef bF bI dS ec dM dK cH ev eA cF ep eo cZ db List.getD_cons_zero List.getD_cons_succ List.getD_nil List.all_cons List.all_nil Bool.and_true Bool.true_and Bool.and_self Bool.not_true Bool.not_false Option.map_some Option.map_none Option.bind_some Option.bind_none List.length_cons List.length_nil List.take_succ_cons List.take_zero List.take_nil List.drop_succ_cons List.drop_zero List.drop_nil List.head?_cons List.map_cons List.map_nil List.getElem?_cons_zero List.getElem?_cons_succ List.cons_append List.nil_append List.append_nil List.length_map List.set_cons_zero List.set_cons_succ Nat.reduceMul eq_self Int.toNat_natCast Int.natCast_nonneg and_self true_and and_true decide_true decide_false Bool.false_eq_true Nat.zero_add Nat.add_zero List.contains_cons List.contains_nil Bool.or_false Bool.false_or beq_self_eq_true Nat.reduceBEq ne_eq not_true_eq_false not_false_eq_true Id.mk.injEq false_and and_false Nat.reduceLT Int.reduceLE Int.reduceLT Int.reduceToNat Int.reduceNeg Int.reduceAdd Nat.le_refl List.length_append beq_true beq_false Bool.not_eq_eq_eq_not or_false false_or dJ ai aj aD bp bE cq aT bd aX bj cR bG
def AI (bs:List PB):AV:=if bs=[]then .bl else .sl (bs.map ay)
theorem MG:AI []=.bl:=rfl
theorem AJ {bs:List PB} (h:0<bs.length):AI bs=.sl (bs.map ay):=by
 unfold AI
 rw[if_neg (by rintro rfl;simp at h)]
theorem xW (cnt:Nat) (vh:1<=cnt) (hn:cnt<=1048576) (bs:List PB) (hb:∀b∈bs,b.a<cnt/\b.b<cnt) (hp:0<bs.length) (ql:bs.length<=1048576) (t:Int):aq Tryz.prog 287 [.int .i64 cnt,.sl (bs.map ay),.int .i64 t] (.gD [.int .i64 (leads cnt (eD (aL t bs))).length,AI (du (eD (aL t bs)) bs)]):=by
 refine aq.body dX rfl fun hl n0=>?_
 clear hl
 (try((repeat(revert hN;revert N;apply Pn.out));refine wk @Nat.zero_add ?_;(repeat(refine Pn.mk ?_;intro N hN))))
 refine .inr (aC _ _ _ _ _ (fun r σ1 hq=>?_) (Iw bs hp ql _))
 obtain⟨o,rfl,ho,LV,LW,Rm⟩:=hq
 (try dsimp only at ho LV LW Rm)
 refine hN _ _ ?_
 clear hN N
 (try((repeat(revert hN;revert N;apply Pn.out));refine wk @Nat.zero_add ?_;(repeat(refine Pn.mk ?_;intro N hN))))
 refine .inr (aC _ _ _ _ _ (fun r σ2 hq=>?_) (Gm bs t ql o ⟨287000000,n0⟩ _ ho (by rw[Rm _ (by(try dsimp only);omega)];simp only[go_sem, ↓reduceIte,Nat.reduceEqDiff,Nat.reduceAdd,Nat.reduceSub,Nat.reduceLeDiff,reduceCtorEq]) (by(try dsimp only);omega) (by(try dsimp only);omega) (by rintro rfl;simp only at LV;omega)))
 obtain⟨rows,rfl,fS,hrt,sO,nr,I6⟩:=hq
 (try dsimp only at nr I6)
 refine hN _ _ ?_
 clear hN N
 have C6:=wD cnt vh hn (aL t bs) (fun b h=>hb b (xt h)) (by have:=nB t bs;omega)
 have hL:=uh (aL t bs)
 have hz:∀x,cJ (dJ σ2.get) 6 [.int .i64 x,.own o 0 (aL t bs).length]=some [.int .i64 x,.sl ((aL t bs).map ay)]:=fun x=>by
  have:V.fz (dJ σ2.get) 6 (.own o 0 (aL t bs).length)=some (.sl ((aL t bs).map ay)):=by
   rw[iA];simp only[dJ,fS,Option.map_some,if_true]
   rw[if_pos (by omega),List.drop_zero,hrt,qI fun b=>zW _ 4 b];rfl
  simp only[ai,aj,aD,this,Option.map_some]
 (try((repeat(revert hN;revert N;apply Pn.out));refine wk @Nat.zero_add ?_;(repeat(refine Pn.mk ?_;intro N hN))))
 refine .inl ⟨_,aq.x C6 (hz _),?_⟩
 refine hN _ _ ?_
 clear hN N
 generalize eD (aL t bs)=L at *
 have te:((fy cnt L).map A9).length=(leads cnt L).length:=by simp[fy]
 have Tl:=jW cnt L
 have jQ:(0:Int)<=(cnt:Int):=by omega
 have qm:(cnt:Int)<=((16777216:Nat):Int):=by omega
 have gN:List.replicate cnt [AV.int .i64 0]=dG (cU cnt L 0 0) cnt:=by rw[xC,o8]
 (try((repeat(revert hN;revert N;apply Pn.out));refine wk (tw @jQ (tw @qm (tw @Int.le_refl (tw @te @gN)))) ?_;(repeat(refine Pn.mk ?_;intro N hN))))
 refine aU (fun n env st=>∃i:Nat,n=((leads cnt L).length)-i/\i<=((leads cnt L).length)/\env 27=.int .i64 (i:Int)/\st.get ⟨287002001,σ2.next+1⟩=some ⟨true,1,dG (cU cnt L i 0) cnt⟩/\(σ2.next+1<st.next)) ((leads cnt L).length) ⟨0,by omega,by omega,sl (tw @gN @te),sl (tw @gN @te),(by(try dsimp only);omega)⟩ ?_
 rintro n_c env_c st_c ⟨i,rfl,cle,c27,cg0,cI0⟩ cfr
 have c1:=cfr 1 (by kernel_rfl);have c8:=cfr 8 (by kernel_rfl);have c9:=cfr 9 (by kernel_rfl);have xS:=cfr 25 (by kernel_rfl);have xT:=cfr 26 (by kernel_rfl)
 simp only[go_sem, ↓reduceIte,Nat.reduceEqDiff,Nat.reduceAdd,Nat.reduceSub,Nat.reduceLeDiff,reduceCtorEq,gN,te]at c1 c8 c9 xS xT
 clear cfr
 by_cases hi:(i:Int)<((leads cnt L).length:Int)
 ·have im:∀{e:Env} {gg:Rows} {nx:Nat},(e 27=.int .i64 (IntKind.i64.wrap ((i:Int)+1)))->(gg ⟨287002001,σ2.next+1⟩=some ⟨true,1,dG (cU cnt L (i+1) 0) cnt⟩)->(σ2.next+1<nx)->∃m0,m0<((leads cnt L).length)-i/\∃i:Nat,m0=((leads cnt L).length)-i/\i<=((leads cnt L).length)/\e 27=.int .i64 (i:Int)/\gg ⟨287002001,σ2.next+1⟩=some ⟨true,1,dG (cU cnt L i 0) cnt⟩/\(σ2.next+1<nx):=fun x1 x2 x3=>⟨_,by omega,i+1,rfl,by omega,(by rw[x1,aA (by omega)]),x2,x3⟩
  have fw:i<(leads cnt L).length:=by omega
  have ke:((fy cnt L).map A9)[i]? =some (A9 (members cnt L (leads cnt L)[i])):=by simp[fy,fw]
  have vg:(leads cnt L).getD i 0=(leads cnt L)[i]:=by simp[List.getD_eq_getElem?_getD,fw]
  have lr:∀m,cU cnt L i m=fun x=>if cj L x<i then cj L x else if x∈(members cnt L (leads cnt L)[i]).take m then i else 0:=fun m=>by unfold cU;rw[vg]
  have rT:=fun x (hx:x<cnt)=>tr hL (n:=cnt) (k:=x) (i:=i) hx fw
  have mz:(members cnt L (leads cnt L)[i]).Nodup:=List.nodup_range.filter _
  have OQ:∀x∈members cnt L (leads cnt L)[i],x<cnt:=fun x hx=>(lS.1 hx).1
  have hMc:(members cnt L (leads cnt L)[i]).length<=cnt:=by
   have:=List.length_filter_le (fun k=>L k==(leads cnt L)[i]) (List.range cnt)
   simpa[members]using this
  generalize members cnt L (leads cnt L)[i]=M at *
  have C4:(M.map eN).length=M.length:=by simp
  (try((repeat(revert hN;revert N;apply Pn.out));refine wk (tw @c27 (tw @cg0 (tw @c1 (tw @c8 (tw @c9 (tw @xS (tw @xT (tw @hi (tw @te (tw @ke (tw @A9.eq_1 @C4))))))))))) ?_;(repeat(refine Pn.mk ?_;intro N hN))))
  refine aU (fun n env st=>∃m:Nat,n=(M.length)-m/\m<=(M.length)/\env 34=.int .i64 (m:Int)/\st.get ⟨287002001,σ2.next+1⟩=some ⟨true,1,dG (cU cnt L i m) cnt⟩/\(σ2.next+1<st.next)) (M.length) ⟨0,by omega,by omega,sl (tw @c27 (tw @cg0 (tw @c1 (tw @c8 (tw @c9 (tw @xS (tw @xT @C4))))))),sl (tw @c27 (tw @cg0 (tw @c1 (tw @c8 (tw @c9 (tw @xS (tw @xT @C4))))))),(by(try dsimp only);omega)⟩ ?_
  rintro n_d env_d st_d ⟨m,rfl,dle,d34,dg0,dI0⟩ dfr
  have d1:=dfr 1 (by kernel_rfl);have d8:=dfr 8 (by kernel_rfl);have d9:=dfr 9 (by kernel_rfl);have d10:=dfr 10 (by kernel_rfl);have d25:=dfr 25 (by kernel_rfl);have d26:=dfr 26 (by kernel_rfl);have d27:=dfr 27 (by kernel_rfl);have d32:=dfr 32 (by kernel_rfl);have d33:=dfr 33 (by kernel_rfl)
  simp only[go_sem, ↓reduceIte,Nat.reduceEqDiff,Nat.reduceAdd,Nat.reduceSub,Nat.reduceLeDiff,reduceCtorEq,c27,cg0,c1,c8,c9,xS,xT,C4]at d1 d8 d9 d10 d25 d26 d27 d32 d33
  clear dfr
  have tl:=gp (cU cnt L i m) cnt
  by_cases hm:(m:Int)<(M.length:Int)
  ·have uk:∀{e:Env} {gg:Rows} {nx:Nat},(e 34=.int .i64 (IntKind.i64.wrap ((m:Int)+1)))->(gg ⟨287002001,σ2.next+1⟩=some ⟨true,1,dG (cU cnt L i (m+1)) cnt⟩)->(σ2.next+1<nx)->∃m0,m0<(M.length)-m/\∃m:Nat,m0=(M.length)-m/\m<=(M.length)/\e 34=.int .i64 (m:Int)/\gg ⟨287002001,σ2.next+1⟩=some ⟨true,1,dG (cU cnt L i m) cnt⟩/\(σ2.next+1<nx):=fun x1 x2 x3=>⟨_,by omega,m+1,rfl,by omega,(by rw[x1,aA (by omega)]),x2,x3⟩
   have Ae:m<M.length:=by omega
   have wH:(M.map eN)[m]? =some (eN M[m]):=by simp[Ae]
   have wM:=OQ _ (List.getElem_mem Ae)
   have Db:(M[m]:Int)<(cnt:Int):=by omega
   have Da:=ft (f:=cU cnt L i m) wM
   have eE:(dG (cU cnt L i m) cnt).set M[m] (eN i)=dG (cU cnt L i (m+1)) cnt:=p4 wM (by
    have h1:=(rT _ wM).1 (List.getElem_mem Ae)
    rw[lr]
    simp only[]
    rw[if_neg (by omega),if_pos (by rw[List.take_succ_eq_append_getElem Ae];exact List.mem_append_right _ (List.mem_singleton.2 rfl))]) fun x hx gZ=>by
    rw[lr,lr]
    simp only[]
    rw[List.take_succ_eq_append_getElem Ae]
    simp only[List.mem_append,List.mem_singleton,gZ,or_false]
   rw[eN]at eE Da
   generalize M[m]=xm at *
   (try((repeat(revert hN;revert N;apply Pn.out));refine wk (tw @d34 (tw @dg0 (tw @d1 (tw @d8 (tw @d9 (tw @d10 (tw @d25 (tw @d26 (tw @d27 (tw @d32 (tw @d33 (tw @hm (tw @hi (tw @wH (tw @C4 (tw @Db (tw @Da (tw @tl (tw @eE @eN.eq_1))))))))))))))))))) ?_;(repeat(refine Pn.mk ?_;intro N hN))))
   refine uk ?_ ?_ (by(try dsimp only);omega)
   all_goals simp only[go_sem, ↓reduceIte,Nat.reduceEqDiff,Nat.reduceAdd,Nat.reduceSub,Nat.reduceLeDiff,reduceCtorEq,d34,dg0,d1,d8,d9,d10,d25,d26,d27,d32,d33,eE]
  ·have lL:m=M.length:=by omega
   subst lL
   have qO:dG (cU cnt L i M.length) cnt=dG (cU cnt L (i+1) 0) cnt:=ib fun x hx=>by
    rw[lr,List.take_length]
    simp only[cU,List.take_zero,List.not_mem_nil,if_false]
    have h1:=rT x hx
    by_cases h2:cj L x<i
    ·rw[if_pos h2,if_pos (by omega)]
    ·rw[if_neg h2]
     by_cases h3:x∈M
     ·rw[if_pos h3,if_pos (by have:=h1.1 h3;omega),h1.1 h3]
     ·rw[if_neg h3,if_neg fun h4=>h3 (h1.2 (by omega))]
   (try((repeat(revert hN;revert N;apply Pn.out));refine wk (tw @d34 (tw @dg0 (tw @d1 (tw @d8 (tw @d9 (tw @d10 (tw @d25 (tw @d26 (tw @d27 (tw @d32 (tw @d33 (tw @hm (tw @hi (tw @te @C4)))))))))))))) ?_;(repeat(refine Pn.mk ?_;intro N hN))))
   refine im ?_ ?_ (by(try dsimp only);omega)
   all_goals simp only[go_sem, ↓reduceIte,Nat.reduceEqDiff,Nat.reduceAdd,Nat.reduceSub,Nat.reduceLeDiff,reduceCtorEq,c27,cg0,c1,c8,c9,xS,xT,d34,dg0,d1,d8,d9,d10,d25,d26,d27,d32,d33,qO]
 have lK:i=(leads cnt L).length:=by omega
 subst lK
 have rU:dG (cU cnt L (leads cnt L).length 0) cnt=dG (cj L) cnt:=ib fun x hx=>by rw[cU,if_pos (kh hL hx)]
 rw[rU]at cg0
 have tl:=gp (cj L) cnt
 have S5:(bs.map ay).length=bs.length:=by simp
 (try((repeat(revert hN;revert N;apply Pn.out));refine wk (tw @c27 (tw @cg0 (tw @c1 (tw @c8 (tw @c9 (tw @xS (tw @xT (tw @hi (tw @te @S5))))))))) ?_;(repeat(refine Pn.mk ?_;intro N hN))))
 have S8:σ2.next+1<st_c.next:=cI0
 refine aU (fun n env st=>∃j:Nat,n=(bs.length)-j/\j<=(bs.length)/\env 46=.int .i64 (j:Int)/\st.get ⟨287002001,σ2.next+1⟩=some ⟨true,1,dG (cj L) cnt⟩/\(st_c.next<=st.next/\((du L (bs.take j)=[]/\env 14=.bl)∨∃p:Id,env 14=.own p 0 (du L (bs.take j)).length/\st.get p=some ⟨true,3,(du L (bs.take j)).map ay⟩/\st_c.next<=p.ck/\p.ck<st.next/\0<(du L (bs.take j)).length))) (bs.length) ⟨0,by omega,by omega,sl (tw @c27 (tw @cg0 (tw @c1 (tw @c8 (tw @c9 (tw @xS (tw @xT @S5))))))),sl (tw @c27 (tw @cg0 (tw @c1 (tw @c8 (tw @c9 (tw @xS (tw @xT @S5))))))),⟨by(try dsimp only);omega,.inl ⟨rfl,by(simp only[go_sem, ↓reduceIte,Nat.reduceEqDiff,Nat.reduceAdd,Nat.reduceSub,Nat.reduceLeDiff,reduceCtorEq])⟩⟩⟩ ?_
 rintro n_f env_f st_f ⟨j,rfl,fle,f46,fg0,fI0⟩ ffr
 have f1:=ffr 1 (by kernel_rfl);have f8:=ffr 8 (by kernel_rfl);have f9:=ffr 9 (by kernel_rfl);have f44:=ffr 44 (by kernel_rfl);have f45:=ffr 45 (by kernel_rfl)
 simp only[go_sem, ↓reduceIte,Nat.reduceEqDiff,Nat.reduceAdd,Nat.reduceSub,Nat.reduceLeDiff,reduceCtorEq,c27,cg0,c1,c8,c9,xS,xT,S5]at f1 f8 f9 f44 f45
 clear ffr
 obtain⟨Qi,fO⟩:=fI0
 have Jo:=dr (i:=⟨287002001,σ2.next+1⟩) (n:=st_f.next) (by(try dsimp only);omega)
 have C9:=(nA L (bs.take j)).1
 rw[List.length_take]at C9
 by_cases hj:(j:Int)<(bs.length:Int)
 ·have sa:∀{e:Env} {gg:Rows} {nx:Nat},(e 46=.int .i64 (IntKind.i64.wrap ((j:Int)+1)))->(gg ⟨287002001,σ2.next+1⟩=some ⟨true,1,dG (cj L) cnt⟩)->(st_c.next<=nx/\((du L (bs.take (j+1))=[]/\e 14=.bl)∨∃p:Id,e 14=.own p 0 (du L (bs.take (j+1))).length/\gg p=some ⟨true,3,(du L (bs.take (j+1))).map ay⟩/\st_c.next<=p.ck/\p.ck<nx/\0<(du L (bs.take (j+1))).length))->∃m0,m0<(bs.length)-j/\∃j:Nat,m0=(bs.length)-j/\j<=(bs.length)/\e 46=.int .i64 (j:Int)/\gg ⟨287002001,σ2.next+1⟩=some ⟨true,1,dG (cj L) cnt⟩/\(st_c.next<=nx/\((du L (bs.take j)=[]/\e 14=.bl)∨∃p:Id,e 14=.own p 0 (du L (bs.take j)).length/\gg p=some ⟨true,3,(du L (bs.take j)).map ay⟩/\st_c.next<=p.ck/\p.ck<nx/\0<(du L (bs.take j)).length)):=fun x1 x2 x3=>⟨_,by omega,j+1,rfl,by omega,(by rw[x1,aA (by omega)]),x2,x3⟩
  have iL:j<bs.length:=by omega
  have HN:(bs.map ay)[j]? =some (ay bs[j]):=by simp[iL]
  have Nc:=hb _ (List.getElem_mem iL)
  have hs:=AF L (bs.take j) bs[j]
  rw[<-List.take_succ_eq_append_getElem iL]at hs
  generalize bs[j]=b at *
  have hA:=ft (f:=cj L) Nc.1
  have hB:=ft (f:=cj L) Nc.2
  have gM:(b.a:Int)<(cnt:Int):=by omega
  have fR:(b.b:Int)<(cnt:Int):=by omega
  rw[eN]at hA hB
  have e1:(du L (bs.take j)).length+1<=16777216:=by omega
  have lL:((du L (bs.take j)).map ay).length=(du L (bs.take j)).length:=by simp
  by_cases he:cj L b.a=cj L b.b
  ·rw[if_pos he,List.append_nil]at hs
   have ve:decide ((cj L b.a:Int)=(cj L b.b:Int))=true:=decide_eq_true (by rw[he])
   (try((repeat(revert hN;revert N;apply Pn.out));refine wk (tw @f46 (tw @fg0 (tw @f1 (tw @f8 (tw @f9 (tw @f44 (tw @f45 (tw @hj (tw @HN (tw @hA (tw @hB (tw @gM (tw @fR (tw @tl (tw @ve (tw @Jo (tw @ay.eq_1 (tw @Bool.not_true @Bool.not_false)))))))))))))))))) ?_;(repeat(refine Pn.mk ?_;intro N hN))))
   refine sa ?_ ?_ (by(try dsimp only);exact⟨by omega,by
    rw[hs]
    rcases fO with⟨h1,h2⟩|⟨p,h1,h2,h3,h4,h5⟩
    ·exact .inl ⟨h1,sd @h2⟩
    ·have Be:=dr h4
     exact .inr ⟨p,sd @h1,sd (tw @h2 @Be),h3,by omega,h5⟩⟩)
   all_goals simp only[go_sem, ↓reduceIte,Nat.reduceEqDiff,Nat.reduceAdd,Nat.reduceSub,Nat.reduceLeDiff,reduceCtorEq,f46,fg0,f1,f8,f9,f44,f45,Jo]
  ·rw[if_neg he]at hs
   have ve:decide ((cj L b.a:Int)=(cj L b.b:Int))=false:=decide_eq_false fun h=>he (by omega)
   rcases fO with⟨h1,f14⟩|⟨p,f14,fg,OV,Je,hp3⟩
   ·rw[h1]at hs
    (try((repeat(revert hN;revert N;apply Pn.out));refine wk (tw @f46 (tw @fg0 (tw @f1 (tw @f8 (tw @f9 (tw @f44 (tw @f45 (tw @f14 (tw @hj (tw @HN (tw @hA (tw @hB (tw @gM (tw @fR (tw @tl (tw @ve (tw @Jo (tw @ay.eq_1 (tw @Bool.not_true @Bool.not_false))))))))))))))))))) ?_;(repeat(refine Pn.mk ?_;intro N hN))))
    refine sa ?_ ?_ (by(try dsimp only);exact⟨by omega,.inr ⟨⟨287017015,st_f.next+1+1+1⟩,by rw[hs];simp only[go_sem, ↓reduceIte,Nat.reduceEqDiff,Nat.reduceAdd,Nat.reduceSub,Nat.reduceLeDiff,reduceCtorEq,List.nil_append,List.length_cons,List.length_nil],by rw[hs];simp only[go_sem, ↓reduceIte,Nat.reduceEqDiff,Nat.reduceAdd,Nat.reduceSub,Nat.reduceLeDiff,reduceCtorEq,ay,List.nil_append,List.map_cons,List.map_nil],by(try dsimp only);omega,by(try dsimp only);omega,by rw[hs];simp⟩⟩)
    all_goals simp only[go_sem, ↓reduceIte,Nat.reduceEqDiff,Nat.reduceAdd,Nat.reduceSub,Nat.reduceLeDiff,reduceCtorEq,f46,fg0,f1,f8,f9,f44,f45,Jo]
   ·have x1:=cz (a:=⟨287002001,σ2.next+1⟩) (b:=p) (by(try dsimp only);omega)
    have Be:=dr Je
    (try((repeat(revert hN;revert N;apply Pn.out));refine wk (tw @f46 (tw @fg0 (tw @f1 (tw @f8 (tw @f9 (tw @f44 (tw @f45 (tw @f14 (tw @fg (tw @hj (tw @HN (tw @hA (tw @hB (tw @gM (tw @fR (tw @tl (tw @ve (tw @x1 (tw @Be (tw @Jo (tw @e1 (tw @lL (tw @ay.eq_1 (tw @Bool.not_true @Bool.not_false)))))))))))))))))))))))) ?_;(repeat(refine Pn.mk ?_;intro N hN))))
    refine sa ?_ ?_ (by(try dsimp only);exact⟨by omega,.inr ⟨⟨287017015,st_f.next+1+1+1⟩,by rw[hs,List.length_append];simp only[go_sem, ↓reduceIte,Nat.reduceEqDiff,Nat.reduceAdd,Nat.reduceSub,Nat.reduceLeDiff,reduceCtorEq,List.length_cons,List.length_nil],by rw[hs,List.map_append,List.map_cons,List.map_nil];simp only[go_sem, ↓reduceIte,Nat.reduceEqDiff,Nat.reduceAdd,Nat.reduceSub,Nat.reduceLeDiff,reduceCtorEq,ay],by(try dsimp only);omega,by(try dsimp only);omega,by rw[hs];simp⟩⟩)
    all_goals simp only[go_sem, ↓reduceIte,Nat.reduceEqDiff,Nat.reduceAdd,Nat.reduceSub,Nat.reduceLeDiff,reduceCtorEq,f46,fg0,f1,f8,f9,f44,f45,x1,Jo]
 ·have ig:j=bs.length:=by omega
  subst ig
  rw[List.take_length]at fO
  rcases fO with⟨h1,f14⟩|⟨p,f14,fg,OV,Je,hp3⟩
  ·(try((repeat(revert hN;revert N;apply Pn.out));refine wk (tw @f46 (tw @fg0 (tw @f1 (tw @f8 (tw @f9 (tw @f44 (tw @f45 (tw @f14 (tw @hj @te))))))))) ?_;(repeat(refine Pn.mk ?_;intro N hN))))
   refine jC (.inl rfl) (r1:=.int .i64 ((leads cnt L).length:Int)) (sd @Nat.zero_add) (by simp only[go_sem, ↓reduceIte,Nat.reduceEqDiff,Nat.reduceAdd,Nat.reduceSub,Nat.reduceLeDiff,reduceCtorEq];rfl) ?_
   simp only[eS,bB,cw,eG,jw,h1,MG,Option.map_some]
  ·(try((repeat(revert hN;revert N;apply Pn.out));refine wk (tw @f46 (tw @fg0 (tw @f1 (tw @f8 (tw @f9 (tw @f44 (tw @f45 (tw @f14 (tw @hj @te))))))))) ?_;(repeat(refine Pn.mk ?_;intro N hN))))
   refine jC (.inl rfl) (r1:=.int .i64 ((leads cnt L).length:Int)) (sd @Nat.zero_add) (by simp only[go_sem, ↓reduceIte,Nat.reduceEqDiff,Nat.reduceAdd,Nat.reduceSub,Nat.reduceLeDiff,reduceCtorEq];rfl) ?_
   have h1:gC st_f.get 5 (.own p 0 (du L bs).length)=some (.sl ((du L bs).map ay)):=fj (sz:=3) fg rfl fun b=>uW _ 3 b
   simp only[eS,bB,cw,eG,h1,AJ hp3,Option.map_some]
theorem xV (cnt:Nat) (vh:1<=cnt) (hn:cnt<=1048576) (t:Int):aq Tryz.prog 287 [.int .i64 cnt,.bl,.int .i64 t] (.gD [.int .i64 cnt,.bl]):=by
 refine aq.body dX rfl fun hl n0=>?_
 clear hl
 have h1:aq Tryz.prog 322 [.bl] .bl:=by
  refine aq.body dX rfl fun hl n0=>?_
  clear hl
  (try((repeat(revert hN;revert N;apply Pn.out));refine wk @Nat.zero_add ?_;(repeat(refine Pn.mk ?_;intro N hN))))
  exact xj (.inl rfl) (r0:=.bl) (sd @Nat.zero_add) (jw _ _)
 have h2:aq Tryz.prog 321 [.bl,.fn 323 [.di [.int .i64 t]]] .bl:=by
  have GF:=(yV [] t (by simp)).cut mixed (.bl (.same _ .nil))
  refine aq.body dX rfl fun hl n0=>?_
  clear hl
  (try((repeat(revert hN;revert N;apply Pn.out));refine wk @Nat.zero_add ?_;(repeat(refine Pn.mk ?_;intro N hN))))
  refine .inl ⟨_,aq.x GF (by simp only[ai,aj,aT,cR,aX,List.all_cons,List.all_nil,AV.cell,Bool.and_true,if_true,Option.map_some]),?_⟩
  refine hN _ _ ?_
  clear hN N
  have hd:decide (ko (fun b:PB=>decide (b.s<t)) []= -1)=true:=rfl
  (try((repeat(revert hN;revert N;apply Pn.out));refine wk @hd ?_;(repeat(refine Pn.mk ?_;intro N hN))))
  exact xj (.inl rfl) (r0:=.bl) (sd @Nat.zero_add) (jw _ _)
 have C6:=(wD cnt vh hn [] (fun b h=>by cases h) (by simp)).cut mixed (.same _ (.bl .nil))
 (repeat(first|((repeat(revert hN;revert N;apply Pn.out));refine wk @Nat.zero_add ?_;(repeat(refine Pn.mk ?_;intro N hN)))|((try apply Or.inl);refine⟨_,aq.x (h1) (sd @Nat.zero_add),?_⟩;refine hN _ _ ?_;clear hN N)))
 refine .inl ⟨_,aq.x h2 ?_,?_⟩
 ·have:V.fz (dJ (bt (fun _=>none) ⟨287000000,n0⟩ ⟨true,1,[[.int .i64 t]]⟩)) 5 (.ptr ⟨287000000,n0⟩ 0 0)=some (.di [.int .i64 t]):=wu (sz:=1) (rows:=[[.int .i64 t]]) (by simp[dJ,bt]) rfl (by simp only[List.drop_zero,ai,aj,aD,Option.map_some])
  simp only[ai,aj,aT,cR,this,List.all_cons,List.all_nil,AV.cell,Bool.and_true,if_true,Option.map_some]
 refine hN _ _ ?_
 clear hN N
 have fR:eD ([]:List PB)=id:=rfl
 rw[fR]at C6
 have hL:jN id:=fR▸uh ([]:List PB)
 have Ql:(leads cnt id).length=cnt:=by rw[leads,List.filter_eq_self.2 (fun a _=>by simp)];simp
 generalize (id:Nat->Nat)=L at *
 have te:((fy cnt L).map A9).length=(leads cnt L).length:=by simp[fy]
 have Tl:=jW cnt L
 have jQ:(0:Int)<=(cnt:Int):=by omega
 have qm:(cnt:Int)<=((16777216:Nat):Int):=by omega
 have gN:List.replicate cnt [AV.int .i64 0]=dG (cU cnt L 0 0) cnt:=by rw[xC,o8]
 (repeat(first|((repeat(revert hN;revert N;apply Pn.out));refine wk (tw @jQ (tw @qm (tw @Int.le_refl (tw @te @gN)))) ?_;(repeat(refine Pn.mk ?_;intro N hN)))|((try apply Or.inl);refine⟨_,aq.x (C6) (sd (tw @jQ (tw @qm (tw @Int.le_refl (tw @te @gN))))),?_⟩;refine hN _ _ ?_;clear hN N)))
 refine aU (fun n env st=>∃i:Nat,n=((leads cnt L).length)-i/\i<=((leads cnt L).length)/\env 27=.int .i64 (i:Int)/\st.get ⟨287002001,n0+1+1⟩=some ⟨true,1,dG (cU cnt L i 0) cnt⟩/\(n0+1+1<st.next)) ((leads cnt L).length) ⟨0,by omega,by omega,sl (tw @gN @te),sl (tw @gN @te),(by(try dsimp only);omega)⟩ ?_
 rintro n_c env_c st_c ⟨i,rfl,cle,c27,cg0,cI0⟩ cfr
 have c1:=cfr 1 (by kernel_rfl);have c8:=cfr 8 (by kernel_rfl);have c9:=cfr 9 (by kernel_rfl);have xS:=cfr 25 (by kernel_rfl);have xT:=cfr 26 (by kernel_rfl)
 simp only[go_sem, ↓reduceIte,Nat.reduceEqDiff,Nat.reduceAdd,Nat.reduceSub,Nat.reduceLeDiff,reduceCtorEq,gN,te]at c1 c8 c9 xS xT
 clear cfr
 by_cases hi:(i:Int)<((leads cnt L).length:Int)
 ·have im:∀{e:Env} {gg:Rows} {nx:Nat},(e 27=.int .i64 (IntKind.i64.wrap ((i:Int)+1)))->(gg ⟨287002001,n0+1+1⟩=some ⟨true,1,dG (cU cnt L (i+1) 0) cnt⟩)->(n0+1+1<nx)->∃m0,m0<((leads cnt L).length)-i/\∃i:Nat,m0=((leads cnt L).length)-i/\i<=((leads cnt L).length)/\e 27=.int .i64 (i:Int)/\gg ⟨287002001,n0+1+1⟩=some ⟨true,1,dG (cU cnt L i 0) cnt⟩/\(n0+1+1<nx):=fun x1 x2 x3=>⟨_,by omega,i+1,rfl,by omega,(by rw[x1,aA (by omega)]),x2,x3⟩
  have fw:i<(leads cnt L).length:=by omega
  have ke:((fy cnt L).map A9)[i]? =some (A9 (members cnt L (leads cnt L)[i])):=by simp[fy,fw]
  have vg:(leads cnt L).getD i 0=(leads cnt L)[i]:=by simp[List.getD_eq_getElem?_getD,fw]
  have lr:∀m,cU cnt L i m=fun x=>if cj L x<i then cj L x else if x∈(members cnt L (leads cnt L)[i]).take m then i else 0:=fun m=>by unfold cU;rw[vg]
  have rT:=fun x (hx:x<cnt)=>tr hL (n:=cnt) (k:=x) (i:=i) hx fw
  have mz:(members cnt L (leads cnt L)[i]).Nodup:=List.nodup_range.filter _
  have OQ:∀x∈members cnt L (leads cnt L)[i],x<cnt:=fun x hx=>(lS.1 hx).1
  have hMc:(members cnt L (leads cnt L)[i]).length<=cnt:=by
   have:=List.length_filter_le (fun k=>L k==(leads cnt L)[i]) (List.range cnt)
   simpa[members]using this
  generalize members cnt L (leads cnt L)[i]=M at *
  have C4:(M.map eN).length=M.length:=by simp
  (try((repeat(revert hN;revert N;apply Pn.out));refine wk (tw @c27 (tw @cg0 (tw @c1 (tw @c8 (tw @c9 (tw @xS (tw @xT (tw @hi (tw @te (tw @ke (tw @A9.eq_1 @C4))))))))))) ?_;(repeat(refine Pn.mk ?_;intro N hN))))
  refine aU (fun n env st=>∃m:Nat,n=(M.length)-m/\m<=(M.length)/\env 34=.int .i64 (m:Int)/\st.get ⟨287002001,n0+1+1⟩=some ⟨true,1,dG (cU cnt L i m) cnt⟩/\(n0+1+1<st.next)) (M.length) ⟨0,by omega,by omega,sl (tw @c27 (tw @cg0 (tw @c1 (tw @c8 (tw @c9 (tw @xS (tw @xT @C4))))))),sl (tw @c27 (tw @cg0 (tw @c1 (tw @c8 (tw @c9 (tw @xS (tw @xT @C4))))))),(by(try dsimp only);omega)⟩ ?_
  rintro n_d env_d st_d ⟨m,rfl,dle,d34,dg0,dI0⟩ dfr
  have d1:=dfr 1 (by kernel_rfl);have d8:=dfr 8 (by kernel_rfl);have d9:=dfr 9 (by kernel_rfl);have d10:=dfr 10 (by kernel_rfl);have d25:=dfr 25 (by kernel_rfl);have d26:=dfr 26 (by kernel_rfl);have d27:=dfr 27 (by kernel_rfl);have d32:=dfr 32 (by kernel_rfl);have d33:=dfr 33 (by kernel_rfl)
  simp only[go_sem, ↓reduceIte,Nat.reduceEqDiff,Nat.reduceAdd,Nat.reduceSub,Nat.reduceLeDiff,reduceCtorEq,c27,cg0,c1,c8,c9,xS,xT,C4]at d1 d8 d9 d10 d25 d26 d27 d32 d33
  clear dfr
  have tl:=gp (cU cnt L i m) cnt
  by_cases hm:(m:Int)<(M.length:Int)
  ·have uk:∀{e:Env} {gg:Rows} {nx:Nat},(e 34=.int .i64 (IntKind.i64.wrap ((m:Int)+1)))->(gg ⟨287002001,n0+1+1⟩=some ⟨true,1,dG (cU cnt L i (m+1)) cnt⟩)->(n0+1+1<nx)->∃m0,m0<(M.length)-m/\∃m:Nat,m0=(M.length)-m/\m<=(M.length)/\e 34=.int .i64 (m:Int)/\gg ⟨287002001,n0+1+1⟩=some ⟨true,1,dG (cU cnt L i m) cnt⟩/\(n0+1+1<nx):=fun x1 x2 x3=>⟨_,by omega,m+1,rfl,by omega,(by rw[x1,aA (by omega)]),x2,x3⟩
   have Ae:m<M.length:=by omega
   have wH:(M.map eN)[m]? =some (eN M[m]):=by simp[Ae]
   have wM:=OQ _ (List.getElem_mem Ae)
   have Db:(M[m]:Int)<(cnt:Int):=by omega
   have Da:=ft (f:=cU cnt L i m) wM
   have eE:(dG (cU cnt L i m) cnt).set M[m] (eN i)=dG (cU cnt L i (m+1)) cnt:=p4 wM (by
    have h1:=(rT _ wM).1 (List.getElem_mem Ae)
    rw[lr]
    simp only[]
    rw[if_neg (by omega),if_pos (by rw[List.take_succ_eq_append_getElem Ae];exact List.mem_append_right _ (List.mem_singleton.2 rfl))]) fun x hx gZ=>by
    rw[lr,lr]
    simp only[]
    rw[List.take_succ_eq_append_getElem Ae]
    simp only[List.mem_append,List.mem_singleton,gZ,or_false]
   rw[eN]at eE Da
   generalize M[m]=xm at *
   (try((repeat(revert hN;revert N;apply Pn.out));refine wk (tw @d34 (tw @dg0 (tw @d1 (tw @d8 (tw @d9 (tw @d10 (tw @d25 (tw @d26 (tw @d27 (tw @d32 (tw @d33 (tw @hm (tw @hi (tw @wH (tw @C4 (tw @Db (tw @Da (tw @tl (tw @eE @eN.eq_1))))))))))))))))))) ?_;(repeat(refine Pn.mk ?_;intro N hN))))
   refine uk ?_ ?_ (by(try dsimp only);omega)
   all_goals simp only[go_sem, ↓reduceIte,Nat.reduceEqDiff,Nat.reduceAdd,Nat.reduceSub,Nat.reduceLeDiff,reduceCtorEq,d34,dg0,d1,d8,d9,d10,d25,d26,d27,d32,d33,eE]
  ·have lL:m=M.length:=by omega
   subst lL
   have qO:dG (cU cnt L i M.length) cnt=dG (cU cnt L (i+1) 0) cnt:=ib fun x hx=>by
    rw[lr,List.take_length]
    simp only[cU,List.take_zero,List.not_mem_nil,if_false]
    have h1:=rT x hx
    by_cases h2:cj L x<i
    ·rw[if_pos h2,if_pos (by omega)]
    ·rw[if_neg h2]
     by_cases h3:x∈M
     ·rw[if_pos h3,if_pos (by have:=h1.1 h3;omega),h1.1 h3]
     ·rw[if_neg h3,if_neg fun h4=>h3 (h1.2 (by omega))]
   (try((repeat(revert hN;revert N;apply Pn.out));refine wk (tw @d34 (tw @dg0 (tw @d1 (tw @d8 (tw @d9 (tw @d10 (tw @d25 (tw @d26 (tw @d27 (tw @d32 (tw @d33 (tw @hm (tw @hi (tw @te @C4)))))))))))))) ?_;(repeat(refine Pn.mk ?_;intro N hN))))
   refine im ?_ ?_ (by(try dsimp only);omega)
   all_goals simp only[go_sem, ↓reduceIte,Nat.reduceEqDiff,Nat.reduceAdd,Nat.reduceSub,Nat.reduceLeDiff,reduceCtorEq,c27,cg0,c1,c8,c9,xS,xT,d34,dg0,d1,d8,d9,d10,d25,d26,d27,d32,d33,qO]
 have lK:i=(leads cnt L).length:=by omega
 subst lK
 have rU:dG (cU cnt L (leads cnt L).length 0) cnt=dG (cj L) cnt:=ib fun x hx=>by rw[cU,if_pos (kh hL hx)]
 rw[rU]at cg0
 have tl:=gp (cj L) cnt
 (try((repeat(revert hN;revert N;apply Pn.out));refine wk (tw @c27 (tw @cg0 (tw @c1 (tw @c8 (tw @c9 (tw @xS (tw @xT (tw @hi @te)))))))) ?_;(repeat(refine Pn.mk ?_;intro N hN))))
 refine aU (fun n env st=>∃j:Nat,n=(0)-j/\j<=(0)/\env 46=.int .i64 (j:Int)/\env 14=.bl) (0) ⟨0,by omega,by omega,sl (tw @c27 (tw @cg0 (tw @c1 (tw @c8 (tw @c9 (tw @xS @xT)))))),sl (tw @c27 (tw @cg0 (tw @c1 (tw @c8 (tw @c9 (tw @xS @xT))))))⟩ ?_
 rintro n_f env_f st_f ⟨j,rfl,fle,f46,f14⟩ ffr
 have f8:=ffr 8 (by kernel_rfl);have f44:=ffr 44 (by kernel_rfl);have f45:=ffr 45 (by kernel_rfl)
 simp only[go_sem, ↓reduceIte,Nat.reduceEqDiff,Nat.reduceAdd,Nat.reduceSub,Nat.reduceLeDiff,reduceCtorEq,c27,cg0,c1,c8,c9,xS,xT]at f8 f44 f45
 clear ffr
 have hj:¬(j:Int)<((0:Nat):Int):=by omega
 (try((repeat(revert hN;revert N;apply Pn.out));refine wk (tw @f46 (tw @f14 (tw @f8 (tw @f44 (tw @f45 (tw @hj @te)))))) ?_;(repeat(refine Pn.mk ?_;intro N hN))))
 refine jC (.inl rfl) (r1:=.int .i64 ((leads cnt L).length:Int)) (r2:=.bl) (sd @Nat.zero_add) (sd @Nat.zero_add) ?_
 simp only[eS,bB,cw,eG,jw,Ql,Option.map_some]
theorem zR (cnt:Nat) (vh:1<=cnt) (hn:cnt<=1048576) (bs:List PB) (hb:∀b∈bs,b.a<cnt/\b.b<cnt) (ql:bs.length<=1048576) (t:Int):aq Tryz.prog 287 [.int .i64 cnt,AI bs,.int .i64 t] (.gD [.int .i64 (leads cnt (eD (aL t bs))).length,AI (du (eD (aL t bs)) bs)]):=by
 cases bs with
 |nil=>
  have h:=xV cnt vh hn t
  have Ql:(leads cnt (eD (aL t []))).length=cnt:=by
   show(leads cnt id).length=cnt
   rw[leads,List.filter_eq_self.2 (fun a _=>by simp)];simp
  rw[Ql]
  exact h
 |cons b r=>
  rw[AJ (by simp)]
  exact xW cnt vh hn (b::r) hb (by simp) ql t
end Go.Proofs.YtgoljkjaameagaaGreat.V

namespace Go.Proofs.YtgoljkjaameagaaGreat.V
open Go.RowKit
attribute [local irreducible] dI wpOps gy Call
attribute [local go_sem] aM fG eQ fZ fY cQ upd cC K.av cP AV.cells AV.cell rowOf rowsOf part ld rowAt bt cu dE ee ik bJ dh ew fX eX dp ej dd dc dQ dR bQ bf cW bP cY cX eh ek ei cV b4 de ef bK aP da cG ij bw cK bU aY dn bc dF AV.undef bF bI dS ec dM dK cH ev eA cF ep eo cZ db List.getD_cons_zero List.getD_cons_succ List.getD_nil List.all_cons List.all_nil Bool.and_true Bool.true_and Bool.and_self Bool.not_true Bool.not_false Option.map_some Option.map_none Option.bind_some Option.bind_none List.length_cons List.length_nil List.take_succ_cons List.take_zero List.take_nil List.drop_succ_cons List.drop_zero List.drop_nil List.head?_cons List.map_cons List.map_nil List.getElem?_cons_zero List.getElem?_cons_succ List.cons_append List.nil_append List.append_nil List.length_map List.set_cons_zero List.set_cons_succ Nat.reduceMul eq_self Int.toNat_natCast Int.natCast_nonneg and_self true_and and_true decide_true decide_false Bool.false_eq_true Nat.zero_add Nat.add_zero List.contains_cons List.contains_nil Bool.or_false Bool.false_or beq_self_eq_true Nat.reduceBEq ne_eq not_true_eq_false not_false_eq_true Id.mk.injEq false_and and_false Nat.reduceLT Int.reduceLE Int.reduceLT Int.reduceToNat Int.reduceNeg Int.reduceAdd Nat.le_refl List.length_append beq_true beq_false Bool.not_eq_eq_eq_not or_false false_or dJ ai aj aD bp bE cq aT bd aX bj cR bG
attribute [local go_sem] FZ
section
attribute [-go_sem] dE
theorem Ml (n:Nat) (hn:n<=1048576):aq Tryz.prog 340 [.int .u64 1,.int .u64 n] (.gD [.int .u64 0,.int .u64 n]):=by
 refine aq.body dX rfl fun hl n0=>?_
 clear hl
 have b1:(BitVec.ofInt 64 (n:Int)&&& BitVec.ofInt 64 4294967295).toNat=n:=by
  rw[BitVec.toNat_and]
  have e1:(BitVec.ofInt 64 (n:Int)).toNat=n:=by rw[BitVec.toNat_ofInt];omega
  have e2:(BitVec.ofInt 64 4294967295).toNat=2 ^ 32-1:=by decide
  rw[e1,e2]
  exact Nat.and_two_pow_sub_one_of_lt_two_pow (by omega)
 have zn:IntKind.u64.wrap (n:Int)=n:=by rw[IntKind.wrap_u64];omega
 have i1:dE .and .u64 (n:Int) 4294967295=some (.int .u64 n):=by
  show some (AV.int .u64 (IntKind.u64.wrap (((BitVec.ofInt 64 (n:Int)&&& BitVec.ofInt 64 4294967295).toNat:Nat):Int)))= _
  rw[b1,zn]
 have i2:dE .and .u64 1 4294967295=some (.int .u64 1):=rfl
 have i3:dE .and .u64 0 4294967295=some (.int .u64 0):=rfl
 have i4:dE .mul .u64 1 (n:Int)=some (.int .u64 n):=by simp only[dE,Int.one_mul,zn]
 have i5:dE .mul .u64 0 (n:Int)=some (.int .u64 0):=by simp only[dE,Int.zero_mul];rfl
 have i6:dE .mul .u64 1 0=some (.int .u64 0):=rfl
 have i7:dE .mul .u64 0 0=some (.int .u64 0):=rfl
 have i8:dE .add .u64 0 0=some (.int .u64 0):=rfl
 have a3:Int.fdiv 1 (2 ^ min 32 64)=0:=by decide
 have a4:Int.fdiv (n:Int) (2 ^ min 32 64)=0:=by
  rw[Int.fdiv_eq_ediv_of_nonneg _ (by decide)]
  have h32:(2:Int) ^ min 32 64=4294967296:=by decide
  exact Int.ediv_eq_zero_of_lt (by omega) (by omega)
 have z1:Int.fdiv 0 (2 ^ min 32 64)=0:=by decide
 (try((repeat(revert hN;revert N;apply Pn.out));refine wk (tw @i1 (tw @i2 (tw @i3 (tw @i4 (tw @i5 (tw @i6 (tw @i7 (tw @i8 (tw @a3 (tw @a4 @z1)))))))))) ?_;(repeat(refine Pn.mk ?_;intro N hN))))
 refine jC (.inl rfl) (r1:=.int .u64 0) (r2:=.int .u64 n) (sd @Nat.zero_add) (sd @Nat.zero_add) ?_
 simp only[eS,bB,cw,eG,Option.map_some]
end
theorem R9 (n:Nat) (hn:n<=1048576):aq Tryz.prog 337 [.int .u64 1,.int .u64 n] (.gD [.int .u64 0,.int .u64 n]):=by
 refine aq.body dX rfl fun hl n0=>?_
 clear hl
 have h:=Ml n hn
 (repeat(first|((repeat(revert hN;revert N;apply Pn.out));refine wk @Nat.zero_add ?_;(repeat(refine Pn.mk ?_;intro N hN)))|((try apply Or.inl);refine⟨_,aq.x (h) (sd @Nat.zero_add),?_⟩;refine hN _ _ ?_;clear hN N)))
 refine jC (.inl rfl) (r1:=.int .u64 0) (r2:=.int .u64 n) (sd @Nat.zero_add) (sd @Nat.zero_add) ?_
 simp only[eS,bB,cw,eG,Option.map_some]
theorem J7 (cnt:Nat) (vh:1<=cnt) (hn:cnt<=1048576) (v:Int) (x:Id) (σ:ar) (hx:σ.get x=some ⟨true,1,[[.int .i64 v]]⟩) (Pc:x.ck<σ.next):
  Call Tryz.prog 327 [.own x 0 1,.int .i64 cnt] σ fun r σ'=>∃o:Id,r=.own o 0 cnt/\σ'.get o=some ⟨true,1,List.replicate cnt [.int .i64 v]⟩/\σ.next<=o.ck/\o.ck<σ'.next/\∀i:Id,i.ck<σ.next->σ'.get i=σ.get i:=by
 refine eL dX rfl fun hl=>?_
 clear hl
 have h:=R9 cnt hn
 have w1:IntKind.u64.wrap (cnt:Int)=cnt:=by rw[IntKind.wrap_u64];omega
 have w2:IntKind.i64.wrap (cnt:Int)=cnt:=KM (by omega)
 have w0:IntKind.u64.wrap ((1:Nat):Int)=1:=by decide
 have g1:¬(cnt:Int)<0:=by omega
 have g2:¬(9223372036854775807:Int)<cnt:=by omega
 have jQ:(0:Int)<=(cnt:Int):=by omega
 have qm:(cnt:Int)<=((16777216:Nat):Int):=by omega
 have Qu:=dr Pc
 have sO:(List.replicate cnt [AV.int .i64 0]).length=cnt:=List.length_replicate
 have m1:min 1 cnt=1:=by omega
 (repeat(first|((repeat(revert hN;revert N;apply Pn.out));refine wk (tw @w0 (tw @w1 (tw @w2 (tw @g1 (tw @g2 (tw @jQ (tw @qm (tw @Int.le_refl (tw @Nat.le_refl (tw @hx (tw @Qu (tw @sO @m1)))))))))))) ?_;(repeat(refine Pn.mk ?_;intro N hN)))|((try apply Or.inl);refine⟨_,aq.x (h) (sd (tw @w0 (tw @w1 (tw @w2 (tw @g1 (tw @g2 (tw @jQ (tw @qm (tw @Int.le_refl (tw @Nat.le_refl (tw @hx (tw @Qu (tw @sO @m1))))))))))))),?_⟩;refine hN _ _ ?_;clear hN N)))
 refine aU (fun m env st=>∃k:Nat,m=cnt-k/\1<=k/\k<=cnt/\env 8=.int .i64 (k:Int)/\st.get ⟨327006002,σ.next+1+1+1+1⟩=some ⟨true,1,List.replicate k [.int .i64 v]++List.replicate (cnt-k) [.int .i64 0]⟩/\σ.next+4<st.next/\∀i:Id,i.ck<σ.next->st.get i=σ.get i) (cnt-1) ⟨1,rfl,Nat.le_refl _,vh,by(simp only[go_sem, ↓reduceIte,Nat.reduceEqDiff,Nat.reduceAdd,Nat.reduceSub,Nat.reduceLeDiff,reduceCtorEq,m1])<;>rfl,?_,by(try dsimp only);omega,fun i hi=>?_⟩ ?_
 ·simp only[go_sem, ↓reduceIte,Nat.reduceEqDiff,Nat.reduceAdd,Nat.reduceSub,Nat.reduceLeDiff,reduceCtorEq]
  rw[List.drop_replicate];rfl
 ·have DX:=dr hi
  simp only[go_sem, ↓reduceIte,Nat.reduceEqDiff,Nat.reduceAdd,Nat.reduceSub,Nat.reduceLeDiff,reduceCtorEq,DX]
 rintro m env_b st_b ⟨k,rfl,xM,wI,b8,bg,bn,gh⟩ bkp
 have b7:=bkp 7 (by kernel_rfl)
 simp only[go_sem, ↓reduceIte,Nat.reduceEqDiff,Nat.reduceAdd,Nat.reduceSub,Nat.reduceLeDiff,reduceCtorEq]at b7
 clear bkp
 have RE:(List.replicate k [AV.int .i64 v]++List.replicate (cnt-k) [AV.int .i64 0]).length=cnt:=by simp;omega
 by_cases hk:(k:Int)<(cnt:Int)
 ·have fA:k<cnt:=by omega
  have xL:(k:Int)<=(cnt:Int):=by omega
  have hw:IntKind.i64.wrap ((k:Int)+((min k (cnt-k):Nat):Int))=((k+min k (cnt-k):Nat):Int):=by rw[bz (by omega)];omega
  have oh:List.take k (List.replicate k [AV.int .i64 v]++List.replicate (cnt-k) [AV.int .i64 0])=List.replicate k [AV.int .i64 v]:=List.take_left' (by simp)
  have dD:(List.replicate k [AV.int .i64 v]).all (fun c=>c.length==1&&c.all AV.cell)=true:=List.all_eq_true.2 fun c hc=>by rw[List.eq_of_mem_replicate hc];rfl
  have hlr:(List.replicate k [AV.int .i64 v]).length=k:=List.length_replicate
  have O6:k+(cnt-k)=cnt:=by omega
  have wL:List.replicate k [AV.int .i64 v]++List.take (min k (cnt-k)) (List.replicate k [AV.int .i64 v])++List.drop (k+min k (cnt-k)) (List.replicate k [AV.int .i64 v]++List.replicate (cnt-k) [AV.int .i64 0])=List.replicate (k+min k (cnt-k)) [AV.int .i64 v]++List.replicate (cnt-(k+min k (cnt-k))) [AV.int .i64 0]:=by
   rw[List.take_replicate,List.drop_append,List.drop_of_length_le (by simp),List.nil_append,hlr,List.drop_replicate,List.replicate_append_replicate]
   congr 2
   ·omega
   ·omega
  (try((repeat(revert hN;revert N;apply Pn.out));refine wk (tw @b7 (tw @b8 (tw @bg (tw @RE (tw @hk (tw @xL (tw @wI (tw @hw (tw @fA (tw @Nat.sub_zero (tw @oh (tw @dD (tw @hlr (tw @O6 (tw @Nat.le_refl @wL))))))))))))))) ?_;(repeat(refine Pn.mk ?_;intro N hN))))
  refine⟨_,?_,k+min k (cnt-k),rfl,by omega,by omega,sd @hw,sd @wL,by(try dsimp only);omega,fun i hi=>?_⟩
  ·omega
  ·have DX:=dr hi
   have:=gh i hi
   simp only[go_sem, ↓reduceIte,Nat.reduceEqDiff,Nat.reduceAdd,Nat.reduceSub,Nat.reduceLeDiff,reduceCtorEq,DX,this]
 ·have mh:k=cnt:=by omega
  subst mh
  (try((repeat(revert hN;revert N;apply Pn.out));refine wk (tw @b7 (tw @b8 (tw @bg (tw @RE @hk)))) ?_;(repeat(refine Pn.mk ?_;intro N hN))))
  refine e9 (.inl rfl) (vs:=[.own ⟨327006002,σ.next+1+1+1+1⟩ 0 k]) (sd @Nat.zero_add) ⟨⟨327006002,σ.next+1+1+1+1⟩,rfl,by simp only[go_sem, ↓reduceIte,Nat.reduceEqDiff,Nat.reduceAdd,Nat.reduceSub,Nat.reduceLeDiff,reduceCtorEq,bg];simp,by(try dsimp only);omega,by(try dsimp only);omega,fun i hi=>gh i hi⟩
end Go.Proofs.YtgoljkjaameagaaGreat.V

namespace Go.Proofs.YtgoljkjaameagaaGreat.V
open Go.RowKit
attribute [local irreducible] dI wpOps gy Call
attribute [local go_sem] aM fG eQ fZ fY cQ upd cC K.av cP AV.cells AV.cell rowOf rowsOf part ld rowAt bt cu dE ee ik bJ dh ew fX eX dp ej dd dc dQ dR bQ bf cW bP cY cX eh ek ei cV b4 de ef bK aP da cG ij bw cK bU aY dn bc dF AV.undef bF bI dS ec dM dK cH ev eA cF ep eo cZ db List.getD_cons_zero List.getD_cons_succ List.getD_nil List.all_cons List.all_nil Bool.and_true Bool.true_and Bool.and_self Bool.not_true Bool.not_false Option.map_some Option.map_none Option.bind_some Option.bind_none List.length_cons List.length_nil List.take_succ_cons List.take_zero List.take_nil List.drop_succ_cons List.drop_zero List.drop_nil List.head?_cons List.map_cons List.map_nil List.getElem?_cons_zero List.getElem?_cons_succ List.cons_append List.nil_append List.append_nil List.length_map List.set_cons_zero List.set_cons_succ Nat.reduceMul eq_self Int.toNat_natCast Int.natCast_nonneg and_self true_and and_true decide_true decide_false Bool.false_eq_true Nat.zero_add Nat.add_zero List.contains_cons List.contains_nil Bool.or_false Bool.false_or beq_self_eq_true Nat.reduceBEq ne_eq not_true_eq_false not_false_eq_true Id.mk.injEq false_and and_false Nat.reduceLT Int.reduceLE Int.reduceLT Int.reduceToNat Int.reduceNeg Int.reduceAdd Nat.le_refl List.length_append beq_true beq_false Bool.not_eq_eq_eq_not or_false false_or dJ ai aj aD bp bE cq aT bd aX bj cR bG
def lj (R:Nat->Id) (n k:Nat):List (List AV):=(List.range k).map fun i=>[.own (R i) 0 n]
theorem kj (R:Nat->Id) (n k:Nat):(lj R n k).length=k:=by simp[lj]
theorem sC {R:Nat->Id} {n k i:Nat} (h:i<k):(lj R n k)[i]? =some [.own (R i) 0 n]:=by simp[lj,h]
theorem tH (R:Nat->Id) (n k:Nat):lj R n (k+1)=lj R n k++[[.own (R k) 0 n]]:=by simp[lj,List.range_succ]
def yi (c:Nat->Nat->Int) (n:Nat):List (List AV):=(List.range n).map fun i=>[.sl (dW (c i) n)]
theorem CR {c:Nat->Nat->Int} {n i:Nat} (h:i<n):(yi c n)[i]? =some [.sl (dW (c i) n)]:=by simp[yi,h]
theorem xz (c:Nat->Nat->Int) (n:Nat):(yi c n).length=n:=by simp[yi]
structure F6 (X o1 o2:Id) (R1 R2:Nat->Id) (n nb:Nat):Prop where
 sx:X.site=299001001
 s1:o1.site=299004008
 s2:o2.site=299005008
 TD:∀i,i<n->(R1 i).site=299004006
 Ny:∀i,i<n->(R2 i).site=299005006
 i1:∀i j,i<n->j<n->R1 i=R1 j->i=j
 i2:∀i j,i<n->j<n->R2 i=R2 j->i=j
 vx:X.ck<nb
 v1:o1.ck<nb
 v2:o2.ck<nb
 TF:∀i,i<n->(R1 i).ck<nb
 QG:∀i,i<n->(R2 i).ck<nb
structure nR (g:Rows) (X o1 o2:Id) (R1 R2:Nat->Id) (n:Nat) (c f:Nat->Nat->Int):Prop where
 x:g X=some ⟨true,2,[[.own o1 0 n,.own o2 0 n]]⟩
 t1:g o1=some ⟨true,1,lj R1 n n⟩
 t2:g o2=some ⟨true,1,lj R2 n n⟩
 r1:∀i,i<n->g (R1 i)=some ⟨true,1,dW (c i) n⟩
 r2:∀i,i<n->g (R2 i)=some ⟨true,1,dW (f i) n⟩
theorem nR.frame {g g':Rows} {X o1 o2:Id} {R1 R2:Nat->Id} {n nb:Nat} {c f:Nat->Nat->Int} (I:F6 X o1 o2 R1 R2 n nb) (h:nR g X o1 o2 R1 R2 n c f) (hf:∀i:Id,i.ck<nb->g' i=g i):nR g' X o1 o2 R1 R2 n c f:=
 ⟨(hf _ I.vx).trans h.x,(hf _ I.v1).trans h.t1,(hf _ I.v2).trans h.t2,fun i hi=>(hf _ (I.TF i hi)).trans (h.r1 i hi),fun i hi=>(hf _ (I.QG i hi)).trans (h.r2 i hi)⟩
theorem oJ {f:Nat->Nat->Int} {a b:Nat} {d:Int} {n:Nat} (hb:b<n):(dW (f a) n).set b (bh (f a b+d))=dW (bump f a b d a) n:=lk hb (by simp[bump]) fun i _ hi=>by simp[bump,hi]
theorem kb {f:Nat->Nat->Int} {a b i:Nat} {d:Int} (h:i≠a):bump f a b d i=f i:=by funext v;simp[bump,h]
theorem nR.add {g g':Rows} {X o1 o2:Id} {R1 R2:Nat->Id} {n nb:Nat} {c f:Nat->Nat->Int} (I:F6 X o1 o2 R1 R2 n nb) (h:nR g X o1 o2 R1 R2 n c f) (b:PB) (ha:b.a<n) (hb:b.b<n) (hA:b.a≠b.b->g' (R1 b.a)=some ⟨true,1,dW (bump c b.a b.b b.s b.a) n⟩) (hB:g' (R1 b.b)=some ⟨true,1,dW (nU c b b.b) n⟩) (hf:∀i:Id,i.ck<nb->(i=R1 b.a)=False->(i=R1 b.b)=False->g' i=g i):nR g' X o1 o2 R1 R2 n (nU c b) f:=by
 have ne:∀{i:Id} {s:Nat},i.site=s->(s==299004006)=false->∀a,a<n->(i=R1 a)=False:=fun {i s} hi hs a ha=>by
  simp only[eq_iff_iff,iff_false]
  rintro rfl
  rw[I.TD a ha]at hi
  subst hi
  simp at hs
 refine⟨(hf _ I.vx (ne I.sx (by decide) _ ha) (ne I.sx (by decide) _ hb)).trans h.x,(hf _ I.v1 (ne I.s1 (by decide) _ ha) (ne I.s1 (by decide) _ hb)).trans h.t1,(hf _ I.v2 (ne I.s2 (by decide) _ ha) (ne I.s2 (by decide) _ hb)).trans h.t2,fun i hi=>?_,fun i hi=>(hf _ (I.QG i hi) (ne (I.Ny i hi) (by decide) _ ha) (ne (I.Ny i hi) (by decide) _ hb)).trans (h.r2 i hi)⟩
 by_cases K1:i=b.b
 ·subst K1;exact hB
 ·by_cases OL:i=b.a
  ·subst OL
   rw[hA K1,nU,kb K1]
  ·rw[nU,kb K1,kb OL,hf _ (I.TF i hi) (by simp only[eq_iff_iff,iff_false];exact fun he=>OL (I.i1 i _ hi ha he)) (by simp only[eq_iff_iff,iff_false];exact fun he=>K1 (I.i1 i _ hi hb he))]
   exact h.r1 i hi
def lI (n:Nat) (c f:Nat->Nat->Int):List AV:=[.sl (yi c n),.sl (yi f n)]
theorem FY {g:Rows} {R:Nat->Id} {n k:Nat} {c:Nat->Nat->Int} (h:∀i,i<k->g (R i)=some ⟨true,1,dW (c i) n⟩) (m:Nat):eb (dJ g) (m+3) (lj R n k)=some ((List.range k).map fun i=>[.sl (dW (c i) n)]):=by
 induction k with
 |zero=>rw[show lj R n 0=[]from rfl,eb];rfl
 |succ k ih=>
  have e1:V.fz (dJ g) (m+3) (.own (R k) 0 n)=some (.sl (dW (c k) n)):=by
   rw[iA];simp only[dJ,h k (by omega),Option.map_some,if_true]
   rw[if_pos (by rw[dB];omega),List.drop_zero,List.take_of_length_le (by rw[dB];omega),AO];rfl
  have app:∀(xs ys:List (List AV)) (TH SD:List (List AV)),eb (dJ g) (m+3) xs=some TH->eb (dJ g) (m+3) ys=some SD->eb (dJ g) (m+3) (xs++ys)=some (TH++SD):=by
   intro xs
   induction xs with
   |nil=>intro ys TH SD h1 h2;rw[eb]at h1;cases h1;exact h2
   |cons a xs ih2=>
    intro ys TH SD h1 h2
    rw[eb]at h1
    rw[List.cons_append,eb]
    cases ha:cJ (dJ g) (m+3) a with
    |none=>simp[ha]at h1
    |some a'=>
     cases hb:eb (dJ g) (m+3) xs with
     |none=>simp[ha,hb]at h1
     |some b'=>
      simp[ha,hb]at h1
      subst h1
      rw[ih2 ys b' SD hb h2];rfl
  rw[tH,List.range_succ,List.map_append]
  refine app _ _ _ _ (ih fun i hi=>h i (by omega)) ?_
  rw[eb,ai,aj,e1,eb];rfl
theorem nR.fz {g:Rows} {X o1 o2:Id} {R1 R2:Nat->Id} {n:Nat} {c f:Nat->Nat->Int} (h:nR g X o1 o2 R1 R2 n c f):V.fz (dJ g) 6 (.ptr X 0 0)=some (.di (lI n c f)):=by
 refine wu (sz:=2) (rows:=[[.own o1 0 n,.own o2 0 n]]) (by simp[dJ,h.x]) rfl ?_
 have e1:V.fz (dJ g) 5 (.own o1 0 n)=some (.sl (yi c n)):=by
  rw[iA];simp only[dJ,h.t1,Option.map_some,if_true]
  rw[if_pos (by rw[kj];omega),List.drop_zero,List.take_of_length_le (by rw[kj];omega)]
  rw[show eb _ 4 _=some (yi c n)from FY h.r1 1];rfl
 have e2:V.fz (dJ g) 5 (.own o2 0 n)=some (.sl (yi f n)):=by
  rw[iA];simp only[dJ,h.t2,Option.map_some,if_true]
  rw[if_pos (by rw[kj];omega),List.drop_zero,List.take_of_length_le (by rw[kj];omega)]
  rw[show eb _ 4 _=some (yi f n)from FY h.r2 1];rfl
 simp only[List.drop_zero,ai,aj,e1,e2,lI,Option.map_some]
theorem Oe (n:Nat) (c f:Nat->Nat->Int) (u v:Nat) (hu:u<n) (hv:v<n):aq Tryz.prog 328 [.di (lI n c f),.int .i64 u,.int .i64 v] (.bool (decide (f u v<c u v))):=by
 refine aq.body dX rfl fun hl n0=>?_
 clear hl
 have h1:=CR (c:=c) hu
 have h2:=CR (c:=f) hu
 have h3:=dO (f:=c u) hv
 have h4:=dO (f:=f u) hv
 have hui:(u:Int)<(n:Int):=by omega
 have DX:(v:Int)<(n:Int):=by omega
 have l1:=xz c n
 have l2:=xz f n
 have l3:=dB (c u) n
 have l4:=dB (f u) n
 rw[bh]at h3 h4
 (try((repeat(revert hN;revert N;apply Pn.out));refine wk (tw @lI.eq_1 (tw @h1 (tw @h2 (tw @h3 (tw @h4 (tw @hui (tw @DX (tw @l1 (tw @l2 (tw @l3 @l4)))))))))) ?_;(repeat(refine Pn.mk ?_;intro N hN))))
 exact aW (b:=decide (f u v<c u v)) (.inl rfl) (sd @Nat.zero_add) rfl
end Go.Proofs.YtgoljkjaameagaaGreat.V
