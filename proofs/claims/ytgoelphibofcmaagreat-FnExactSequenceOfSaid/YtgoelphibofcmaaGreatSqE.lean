/- Growth inside an assembly, by the reference: the rounds. -/
import Derived.Test.YtgoelphibofcmaaGreatSqD
import Derived.Test.YtgoelphibofcmaaGreatSqB
import Derived.Shelf.SlSortCmp.WholeK
import Derived.Shelf.SlSortCmp.NoneTotal
import Derived.Ground.SlsfProg
import Derived.Test.YtgoelphibofcmaaGreatProg
import Derived.Test.YtgoelphibofcmaaGreatSqC
import Derived.Maps.RangeRun
import Derived.Test.YtgoelphibofcmaaGreatChecked
import Derived.RangeFuncNested
import Derived.RangeFuncBound
import Derived.RangeFuncCalls
import Derived.RangeFuncLeaves
import Derived.Shelf.Abstract
import Derived.Shelf.RegionOpen
import Derived.WalkKit
import Derived.OwnWalkIn
import Derived.TacticsInMore
import Derived.LoopNIn
import Derived.LoopIn
import Derived.BigQuiet
import Derived.RangeFuncBox
import Derived.RangeFuncWrites
import Derived.Maps.AppendAt
set_option linter.unusedVariables false
set_option linter.unusedSimpArgs false
set_option maxRecDepth 100000
set_option maxHeartbeats 16000000
namespace Go.Proofs.YtgoelphibofcmaaGreat.V
open Go.RowKit
attribute [local irreducible] dI wpOps gD Call
attribute [local go_sem] aM fM eP gp gm cN upd cD K.av cR AV.cells AV.cell rowOf rowsOf part ld rowAt bz cu dG ef ik bQ dh eA gj e9 dq ek dd dc dU dV bW bf cW bV cY cX ei eo ej cV ck de eh bU aT da cG ij bx cQ b4 aY dn bc dH AV.undef bF bI eb ee dP dM cJ ez eE cF er ep cZ db List.getD_cons_zero List.getD_cons_succ List.getD_nil List.all_cons List.all_nil Bool.and_true Bool.true_and Bool.and_self Bool.not_true Bool.not_false Option.map_some Option.map_none Option.bind_some Option.bind_none List.length_cons List.length_nil List.take_succ_cons List.take_zero List.take_nil List.drop_succ_cons List.drop_zero List.drop_nil List.head?_cons List.map_cons List.map_nil List.getElem?_cons_zero List.getElem?_cons_succ List.cons_append List.nil_append List.append_nil List.length_map List.set_cons_zero List.set_cons_succ Nat.reduceMul eq_self Int.toNat_natCast Int.natCast_nonneg and_self true_and and_true decide_true decide_false Bool.false_eq_true Nat.zero_add Nat.add_zero List.contains_cons List.contains_nil Bool.or_false Bool.false_or beq_self_eq_true Nat.reduceBEq ne_eq not_true_eq_false not_false_eq_true Id.mk.injEq false_and and_false Nat.reduceLT Int.reduceLE Int.reduceLT Int.reduceToNat Int.reduceNeg Int.reduceAdd Nat.le_refl List.length_append beq_true beq_false Bool.not_eq_eq_eq_not or_false false_or dO ai aj aH bp bE cz aX bl aW bj cU bH
theorem Fq {g:Rows} {X o:Id} {L:List ad} (hX:g X=some ⟨true,1,[[.own o 0 L.length]]⟩) (ho:g o=some ⟨true,3,L.map aa⟩):fz (dO g) 6 (.ptr X 0 0)=some (.di [.sl (L.map aa)]):=by
 have h1:fz (dO g) 5 (.own o 0 L.length)=some (.sl (L.map aa)):=gP (e:=aa) (sz:=3) (by simp[dO,ho]) rfl fun x=>by simp[aa,ai,aj,aH]
 exact vK (n:=5) (sz:=1) (rows:=[[.own o 0 L.length]]) (cs:=[.own o 0 L.length]) (by simp[dO,hX]) rfl (by simp[ai,aj,h1])
def KD (X:Id) (st:iS) (e7:AV) (g:Rows) (n:Nat):Prop:=∃o u:Id,g X=some ⟨true,1,[[.own o 0 st.2.length]]⟩/\g o=some ⟨true,3,st.2.map aa⟩/\e7=.own u 0 st.1.length/\g u=some ⟨true,3,st.1.map aa⟩/\o.bP<u.bP/\X.bP<u.bP/\u.bP<n/\o≠X
theorem KD.frame {X:Id} {st:iS} {e7 Qb:AV} {g g':Rows} {n n':Nat} (h:KD X st e7 g n) (he:Qb=e7) (hn:n<=n') (hf:∀x:Id,x.bP<n->g' x=g x):KD X st Qb g' n':=by
 obtain⟨o,u,h1,h2,h3,h4,h5,h6,h7,h8⟩:=h
 exact⟨o,u,(hf X (by omega)).trans h1,(hf o (by omega)).trans h2,he.trans h3,(hf u h7).trans h4,h5,h6,by omega,h8⟩
theorem tL {s:aA} {st:iS} {x:ad} (h:j4 s st.2 x.aO x.aQ=true):jv s st x=(st.1++[x],iz st.2 x):=if_pos h
theorem v8 {s:aA} {st:iS} {x:ad} (h:j4 s st.2 x.aO x.aQ=false):jv s st x=st:=if_neg (by rw[h];simp)
theorem BQ (s:aA) (hP:uW s) (l:List ad) (hA:jl s.aE l) (hW:iR s.aZ.ah l=true):aq Tryz.prog 60 [.di (aw s),.di [.sl (l.map aa)]] (.gK [.sl ((iW s l).1.map aa),.agg [.sl ((iW s l).2.map aa)]]):=by
 refine aq.body eB rfl fun lj n0=>?_
 clear lj
 have Iu:=hA.1.rn
 have K2:=sV hP hA hW
 have QX:=K2.rn
 (try dsimp only at QX)
 (try((repeat(revert hN;revert N;apply Pn.out));refine wk @aw.eq_1 ?_;(repeat(refine Pn.mk ?_;intro N hN))))
 refine .inr (aJ _ _ _ _ _ (fun r σ1 hq=>?_) (M7.val (fun n=>(IZ s.aZ.ah (by omega) n).cut mixed (.ptr _ [.int .i64 s.aB] .nil)) (by simp only[ai,aj,aW,Option.map_some];rfl)))
 obtain⟨⟨o,rfl,q1,q2,q3⟩,hK⟩:=hq
 obtain⟨g1,x1⟩:=σ1
 (try dsimp only at q1 q2 q3 hK)
 have xw:=hK.1
 have k5:=hK.2 ⟨60000001,n0⟩ (by(try dsimp only);omega)
 simp only[go_sem, ↓reduceIte,Nat.reduceEqDiff,Nat.reduceAdd,Nat.reduceSub,Nat.reduceLeDiff,reduceCtorEq]at k5
 (try dsimp only at xw)
 refine hN _ _ ?_
 clear hN N
 (try((repeat(revert hN;revert N;apply Pn.out));refine wk (tw @k5 @aw.eq_1) ?_;(repeat(refine Pn.mk ?_;intro N hN))))
 refine aV (fun n env st=>∃(S:iS) (m:Nat) (go:Bool),n=(if go then m else 0)/\env 8=.bool go/\(go=true->v7 s l m S=iW s l/\oH l S.2<m)/\(go=false->S=iW s l)/\n9 s l S/\KD ⟨60001004,x1⟩ S (env 7) st.get st.next/\st.get ⟨60000001,n0⟩=some ⟨true,1,[[.cq]]⟩) (l.length+1) ⟨([],s.aZ.ah),l.length+1,true,rfl,sd @Nat.zero_add,fun _=>⟨rfl,by have:=ES l s.aZ.ah;(try dsimp only);omega⟩,fun h=>(by cases h),K2,?_,?_⟩ ?_
 ·have vo:=dw (i:=o) (n:=x1) (by omega)
  have vu:=dw (i:=⟨60001004,x1⟩) (n:=x1+1) (by(try dsimp only);omega)
  exact⟨o,⟨60002000,x1+1⟩,sd @Nat.zero_add,sd (tw @vo @q1),sl @Nat.zero_add,sl @Nat.zero_add,by(try dsimp only);omega,by(try dsimp only);omega,by(try dsimp only);omega,fun e=>by rw[e]at q3;(try dsimp only at q3);omega⟩
 ·simp only[go_sem, ↓reduceIte,Nat.reduceEqDiff,Nat.reduceAdd,Nat.reduceSub,Nat.reduceLeDiff,reduceCtorEq,k5]
 rintro n1 e1 st1 ⟨S,m,go,rfl,e8,rC,hend,hI,hL,hr5⟩ hk
 have c0:=hk 0 (by kernel_rfl)
 have c1:=hk 1 (by kernel_rfl)
 have c5:=hk 5 (by kernel_rfl)
 have c6:=hk 6 (by kernel_rfl)
 simp only[go_sem, ↓reduceIte,Nat.reduceEqDiff,Nat.reduceAdd,Nat.reduceSub,Nat.reduceLeDiff,reduceCtorEq,aw]at c0 c1 c5 c6
 clear hk q1 q2 q3 hK k5
 cases go
 ·have hS:=hend rfl
  subst hS
  clear hend rC
  obtain⟨o,u,h1,h2,h3,h4,h5,h6,h7,h8⟩:=hL
  (try((repeat(revert hN;revert N;apply Pn.out));refine wk (tw @e8 (tw @c5 (tw @c6 (tw @h1 (tw @h3 @hr5))))) ?_;(repeat(refine Pn.mk ?_;intro N hN))))
  have a5:o=⟨60000001,n0⟩->False:=fun e=>by
   rw[e,hr5]at h2
   simp at h2
  have b5:u=⟨60000001,n0⟩->False:=fun e=>by
   rw[e,hr5]at h4
   simp at h4
  have oa:=eq_false a5
  have ob:=eq_false b5
  exact p7 (.inl rfl) (vs:=[.own u 0 (iW s l).1.length,.agg [.own o 0 (iW s l).2.length]]) (sd (tw @c5 @h3)) (by
   simp only[fe,eW,bD,cE,ET]
   rw[fD (e:=aa) (l:=(iW s l).1) (sz:=3) (sd (tw @ob @h4)) rfl (fun x=>Mt _ 3 x),fD (e:=aa) (l:=(iW s l).2) (sz:=3) (sd (tw @oa @h2)) rfl (fun x=>Mt _ 2 x)];rfl)
 ·obtain⟨hF,hm⟩:=rC rfl
  clear hend rC
  have Dr:fJ s l S 0=S:=by simp[fJ]
  (try((repeat(revert hN;revert N;apply Pn.out));refine wk (tw @e8 (tw @c0 @c1)) ?_;(repeat(refine Pn.mk ?_;intro N hN))))
  refine aV (fun n env st=>∃i:Nat,n=(l.length)-i/\i<=(l.length)/\env 9=.int .i64 (i:Int)/\(env 8=.bool (decide ((fJ s l S i).1.length≠S.1.length))/\KD ⟨60001004,x1⟩ (fJ s l S i) (env 7) st.get st.next/\st.get ⟨60000001,n0⟩=some ⟨true,1,[[.cq]]⟩)) (l.length) ⟨0,by omega,by omega,sl (tw @c0 (tw @c1 (tw @c5 @c6))),by(try dsimp only);exact⟨by rw[Dr];simp only[go_sem, ↓reduceIte,Nat.reduceEqDiff,Nat.reduceAdd,Nat.reduceSub,Nat.reduceLeDiff,reduceCtorEq]<;>simp,by rw[Dr];exact hL.frame (sd @Nat.zero_add) (by(try dsimp only);omega) fun x _=>rfl,hr5⟩⟩ ?_
  rintro n_b env_b st_b ⟨i,rfl,ble,b9,bI0⟩ fW
  have b0:=fW 0 (by kernel_rfl);have b1:=fW 1 (by kernel_rfl);have b5:=fW 5 (by kernel_rfl);have b6:=fW 6 (by kernel_rfl)
  simp only[go_sem, ↓reduceIte,Nat.reduceEqDiff,Nat.reduceAdd,Nat.reduceSub,Nat.reduceLeDiff,reduceCtorEq,c0,c1,c5,c6]at b0 b1 b5 b6
  clear fW
  obtain⟨b8,bL,RU⟩:=bI0
  obtain⟨AD,Ix,CC⟩:=w6 hI hA i (by omega)
  by_cases hi:(i:Int)<(l.length:Int)
  ·have ga:∀{e:Env} {gg:Rows} {nx:Nat},(e 9=.int .i64 (IntKind.i64.wrap ((i:Int)+1)))->(e 8=.bool (decide ((fJ s l S (i+1)).1.length≠S.1.length))/\KD ⟨60001004,x1⟩ (fJ s l S (i+1)) (e 7) gg nx/\gg ⟨60000001,n0⟩=some ⟨true,1,[[.cq]]⟩)->∃m0,m0<(l.length)-i/\∃i:Nat,m0=(l.length)-i/\i<=(l.length)/\e 9=.int .i64 (i:Int)/\(e 8=.bool (decide ((fJ s l S i).1.length≠S.1.length))/\KD ⟨60001004,x1⟩ (fJ s l S i) (e 7) gg nx/\gg ⟨60000001,n0⟩=some ⟨true,1,[[.cq]]⟩):=fun x1 x2=>⟨_,by omega,i+1,rfl,by omega,(by rw[x1,az (by omega)]),x2⟩
   have ft:i<l.length:=by omega
   have yl:=qC s l S ft
   have hx:=gG ft
   have ht:=hA.2 _ hx
   have j6:=fu ft
   have Qn:=AD.asm hA
   have Qt:=I4 s hP _ Qn (aI l i).aO (aI l i).aQ ht
   have lE:(l.map aa).length=l.length:=by simp
   have TE:=AD.rn
   have TF:=AD.len
   generalize fJ s l S i=T at AD Qn Qt yl TE TF CC b8 bL
   obtain⟨o,u,h1,h2,h3,h4,h5,h6,h7,h8⟩:=bL
   have vo:=dw (i:=o) (n:=st_b.next) (by omega)
   have vu:=dw (i:=u) (n:=st_b.next) (by omega)
   have vX:=dw (i:=⟨60001004,x1⟩) (n:=st_b.next) (by(try dsimp only at h6);(try dsimp only);omega)
   have v5:=dw (i:=⟨60000001,n0⟩) (n:=st_b.next) (by(try dsimp only at h6);(try dsimp only);omega)
   (try((repeat(revert hN;revert N;apply Pn.out));refine wk (tw @b9 (tw @b0 (tw @b1 (tw @b5 (tw @b6 (tw @hi (tw @j6 (tw @lE @aa.eq_1)))))))) ?_;(repeat(refine Pn.mk ?_;intro N hN))))
   refine .inl ⟨_,aq.x Qt (by
    have hp:=Fq (g:=bz (bz st_b.get ⟨60009017,st_b.next+1⟩ ⟨true,3,[[.int .i64 0,.int .i64 0,.int .i64 0]]⟩) ⟨60009017,st_b.next+1⟩ ⟨true,3,[[.int .i64 (aI l i).aO.eY,.int .i64 (aI l i).aO.eS,.int .i64 (aI l i).aQ]]⟩) (X:=⟨60001004,x1⟩) (o:=o) (L:=T.2) (sd (tw @vX @h1)) (sd (tw @vo @h2))
    simp only[ai,aj,aW,hp,bl,aH,Option.map_some]
    rfl),?_⟩
   refine hN _ _ ?_
   clear hN N
   cases hf:j4 s T.2 (aI l i).aO (aI l i).aQ
   ·rw[v8 hf]at yl
    (try((repeat(revert hN;revert N;apply Pn.out));refine wk (tw @b9 (tw @b0 (tw @b1 (tw @b5 (tw @b6 (tw @hf @j6)))))) ?_;(repeat(refine Pn.mk ?_;intro N hN))))
    exact ga (sd (tw @b9 (tw @b0 (tw @b1 (tw @b5 @b6))))) (by(try dsimp only);exact⟨by rw[yl];simp only[go_sem, ↓reduceIte,Nat.reduceEqDiff,Nat.reduceAdd,Nat.reduceSub,Nat.reduceLeDiff,reduceCtorEq,b8],by rw[yl];exact(show KD ⟨60001004,x1⟩ T (env_b 7) st_b.get st_b.next from⟨o,u,h1,h2,h3,h4,h5,h6,h7,h8⟩).frame (sd @Nat.zero_add) (by(try dsimp only);omega) (fun y hy=>by
     have h9:=dw hy
     simp only[go_sem, ↓reduceIte,Nat.reduceEqDiff,Nat.reduceAdd,Nat.reduceSub,Nat.reduceLeDiff,reduceCtorEq,h9]),sd (tw @v5 @RU)⟩)
   ·rw[tL hf]at yl
    (try((repeat(revert hN;revert N;apply Pn.out));refine wk (tw @b9 (tw @b0 (tw @b1 (tw @b5 (tw @b6 (tw @hf @j6)))))) ?_;(repeat(refine Pn.mk ?_;intro N hN))))
    refine .inr (aJ _ _ _ _ _ (fun r σ2 hq=>?_) (M7.val (fun n=>I0 T.2 (by omega) (aI l i).aO (aI l i).aQ n) (by
     have hp:=Fq (g:=bz (bz st_b.get ⟨60009017,st_b.next+1⟩ ⟨true,3,[[.int .i64 0,.int .i64 0,.int .i64 0]]⟩) ⟨60009017,st_b.next+1⟩ ⟨true,3,[[.int .i64 (aI l i).aO.eY,.int .i64 (aI l i).aO.eS,.int .i64 (aI l i).aQ]]⟩) (X:=⟨60001004,x1⟩) (o:=o) (L:=T.2) (sd (tw @vX @h1)) (sd (tw @vo @h2))
     simp only[ai,aj,hp,bl,aH,Option.map_some]
     rfl)))
    obtain⟨⟨o2,rfl,p1,p2,p3⟩,hK⟩:=hq
    obtain⟨g2,x2⟩:=σ2
    (try dsimp only at p1 p2 p3 hK)
    have Le:=hK.1
    (try dsimp only at Le)
    have hXb:x1<st_b.next:=by(try dsimp only at h6);omega
    have kX:=hK.2 ⟨60001004,x1⟩ (by(try dsimp only);omega)
    have k5:=hK.2 ⟨60000001,n0⟩ (by(try dsimp only);omega)
    have ku:=hK.2 u (by(try dsimp only);omega)
    have kt:=hK.2 ⟨60009017,st_b.next+1⟩ (by(try dsimp only);omega)
    simp only[go_sem, ↓reduceIte,Nat.reduceEqDiff,Nat.reduceAdd,Nat.reduceSub,Nat.reduceLeDiff,reduceCtorEq,vX,v5,vu,h1,h4,RU]at kX k5 ku kt
    have l7:=oV (aI l i) T.2
    have hpe:iz T.2 ⟨(aI l i).aO,(aI l i).aQ⟩=iz T.2 (aI l i):=rfl
    rw[hpe]at p1 ⊢
    refine hN _ _ ?_
    clear hN N
    have UF:(T.1.map aa).length=T.1.length:=by simp
    have SG:T.1.length<=16777215:=by omega
    have uX:=cr (a:=⟨60001004,x1⟩) (b:=u) (by(try dsimp only at h6);(try dsimp only);omega)
    have u5:=cr (a:=⟨60000001,n0⟩) (b:=u) (by(try dsimp only at h6);(try dsimp only);omega)
    have UU:=dw (i:=u) (n:=x2) (by omega)
    have vX2:=dw (i:=⟨60001004,x1⟩) (n:=x2) (by(try dsimp only);omega)
    have v52:=dw (i:=⟨60000001,n0⟩) (n:=x2) (by(try dsimp only);omega)
    have SU:=dw (i:=⟨60009017,st_b.next+1⟩) (n:=x2) (by(try dsimp only);omega)
    have ut:=cr (a:=u) (b:=⟨60009017,st_b.next+1⟩) (by(try dsimp only);omega)
    (try((repeat(revert hN;revert N;apply Pn.out));refine wk (tw @b9 (tw @b0 (tw @b1 (tw @b5 (tw @b6 (tw @kX (tw @ku (tw @kt (tw @h3 (tw @uX (tw @ut (tw @UU (tw @vX2 (tw @SU (tw @UF @SG))))))))))))))) ?_;(repeat(refine Pn.mk ?_;intro N hN))))
    have hd:decide ((T.1++[aI l i]).length≠S.1.length)=true:=decide_eq_true (by rw[iM];omega)
    have xx:=iM T.1 (aI l i)
    have rE:=rM T.1 (aI l i)
    have Rz:=dw (i:=o2) (n:=x2) (by omega)
    have uo2:=cr (a:=u) (b:=o2) (by omega)
    have X2:=cr (a:=⟨60001004,x1⟩) (b:=o2) (by(try dsimp only);omega)
    exact ga (sd (tw @b9 (tw @b0 (tw @b1 (tw @b5 @b6))))) (by(try dsimp only);exact⟨by rw[yl,hd]<;>simp only[go_sem, ↓reduceIte,Nat.reduceEqDiff,Nat.reduceAdd,Nat.reduceSub,Nat.reduceLeDiff,reduceCtorEq],by
     rw[yl]
     exact⟨o2,⟨60012003,x2+1⟩,sl (tw @vX2 (tw @uX @l7)),sd (tw @Rz (tw @uo2 (tw @X2 @p1))),by rw[xx];simp only[go_sem, ↓reduceIte,Nat.reduceEqDiff,Nat.reduceAdd,Nat.reduceSub,Nat.reduceLeDiff,reduceCtorEq]<;>rfl,by rw[rE];simp only[go_sem, ↓reduceIte,Nat.reduceEqDiff,Nat.reduceAdd,Nat.reduceSub,Nat.reduceLeDiff,reduceCtorEq]<;>rfl,by(try dsimp only);omega,by(try dsimp only);omega,by(try dsimp only);omega,fun e=>by rw[e]at p2;(try dsimp only at p2);omega⟩,sd (tw @v52 (tw @u5 @k5))⟩)
  ·have lD:i=l.length:=by omega
   subst lD
   rw[pg]at AD bL b8 Ix
   have qx:=yv hI hA hm
   (try((repeat(revert hN;revert N;apply Pn.out));refine wk (tw @b9 (tw @b0 (tw @b1 (tw @b5 (tw @b6 @hi))))) ?_;(repeat(refine Pn.mk ?_;intro N hN))))
   have R6:KD ⟨60001004,x1⟩ (gy s l S) (env_b 7) st_b.get st_b.next:=bL
   by_cases he:(gy s l S).1.length=S.1.length
   ·refine⟨0,by show 0<m;omega,gy s l S,0,false,rfl,?_,fun h=>(by cases h),fun _=>(qx.1 he).symm.trans hF,AD,R6.frame (sd @Nat.zero_add) (by(try dsimp only);omega) fun x _=>rfl,RU⟩
    simp only[go_sem, ↓reduceIte,Nat.reduceEqDiff,Nat.reduceAdd,Nat.reduceSub,Nat.reduceLeDiff,reduceCtorEq,b8,he]<;>simp
   ·obtain⟨m',rfl,K0,Hm⟩:=qx.2 he
    refine⟨m',Nat.lt_succ_self _,gy s l S,m',true,rfl,?_,fun _=>⟨K0.symm.trans hF,Hm⟩,fun h=>(by cases h),AD,R6.frame (sd @Nat.zero_add) (by(try dsimp only);omega) fun x _=>rfl,RU⟩
    have hd:=decide_eq_true he
    simp only[go_sem, ↓reduceIte,Nat.reduceEqDiff,Nat.reduceAdd,Nat.reduceSub,Nat.reduceLeDiff,reduceCtorEq,b8]
    rw[hd]
end Go.Proofs.YtgoelphibofcmaaGreat.V

namespace Go.Proofs.YtgoelphibofcmaaGreat.V
open Go.RowKit
attribute [local irreducible] dI wpOps gD Call
attribute [local go_sem] aM fM eP gp gm cN upd cD K.av cR AV.cells AV.cell rowOf rowsOf part ld rowAt bz cu dG ef ik bQ dh eA gj e9 dq ek dd dc dU dV bW bf cW bV cY cX ei eo ej cV ck de eh bU aT da cG ij bx cQ b4 aY dn bc dH AV.undef bF bI eb ee dP dM cJ ez eE cF er ep cZ db List.getD_cons_zero List.getD_cons_succ List.getD_nil List.all_cons List.all_nil Bool.and_true Bool.true_and Bool.and_self Bool.not_true Bool.not_false Option.map_some Option.map_none Option.bind_some Option.bind_none List.length_cons List.length_nil List.take_succ_cons List.take_zero List.take_nil List.drop_succ_cons List.drop_zero List.drop_nil List.head?_cons List.map_cons List.map_nil List.getElem?_cons_zero List.getElem?_cons_succ List.cons_append List.nil_append List.append_nil List.length_map List.set_cons_zero List.set_cons_succ Nat.reduceMul eq_self Int.toNat_natCast Int.natCast_nonneg and_self true_and and_true decide_true decide_false Bool.false_eq_true Nat.zero_add Nat.add_zero List.contains_cons List.contains_nil Bool.or_false Bool.false_or beq_self_eq_true Nat.reduceBEq ne_eq not_true_eq_false not_false_eq_true Id.mk.injEq false_and and_false Nat.reduceLT Int.reduceLE Int.reduceLT Int.reduceToNat Int.reduceNeg Int.reduceAdd Nat.le_refl List.length_append beq_true beq_false Bool.not_eq_eq_eq_not or_false false_or dO ai aj aH bp bE cz aX bl aW bj cU bH
def SO (ps:List aD) (i:Nat):aD:=ps.getD i ⟨0,0⟩
theorem Ju {ps:List aD} {i:Nat} (h:i<ps.length):SO ps i=ps[i]:=by simp[SO,List.getD_eq_getElem?_getD,h]
def PY (ps:List aD):Prop:=ps.Pairwise fun a b=>jK a b=true
theorem PY.at_ {ps:List aD} (h:PY ps) {i j:Nat} (Dl:i<j) (hj:j<ps.length):jK (SO ps i) (SO ps j)=true:=by
 rw[Ju hj,Ju (by omega)]
 exact List.pairwise_iff_getElem.1 h i j (by omega) hj Dl
end Go.Proofs.YtgoelphibofcmaaGreat.V

namespace Go.Proofs.YtgoelphibofcmaaGreat.V
open Go.RowKit Go.Shelf Go.Lib Go.Sort
instance:Inhabited aD:=⟨⟨0,0⟩⟩
variable {P:Program} {w:World} {D:Nat->Prop} {ι:Names}
theorem Jv {vs:Array Value} (h:fh P w D ι [] vs):vs= #[]:=Array.eq_empty_of_size_eq_zero h.1
theorem yS {a:AV} {r:List AV} {vs:Array Value} (h:fh P w D ι (a::r) vs):∃u us,vs=(u::us).toArray/\cH P w D ι a u/\fh P w D ι r us.toArray:=by
 obtain⟨h1,h2⟩:=h
 obtain⟨l⟩:=vs
 cases l with
 |nil=>simp at h1
 |cons u us=>
  obtain⟨u',hu,hr⟩:=h2 0 a rfl
  simp at hu;subst hu
  exact⟨u,us,rfl,hr,by simpa using h1,fun j b hj=>by
   obtain⟨v,hv,lF⟩:=h2 (j+1) b (by simpa using hj)
   exact⟨v,by simpa using hv,lF⟩⟩
end Go.Proofs.YtgoelphibofcmaaGreat.V

namespace Go.Proofs
open Go.Shelf
def Tryz.Ea:Go.Shelf.Ren:=⟨fun|6=>209|15=>207|14=>235|28=>233|29=>234|20=>252|21=>253|22=>254|23=>255|24=>256|25=>257|26=>258|27=>259|46=>268|47=>248|48=>249|49=>269|50=>270|57=>274|n=>n,fun|22=>39|24=>137|25=>243|3=>3|39=>216|0=>0|53=>268|55=>270|4=>4|46=>262|45=>261|50=>177|5=>5|9=>9|66=>287|70=>291|76=>312|77=>313|n=>n,fun|n=>n⟩
theorem Tryz.JL:Go.Proofs.SlLaysF0.n6 Tryz.prog Tryz.Ea:={
 mixed:=by kernel_rfl
 f6:=⟨Tryz.f209.name,by decide,Tryz.func209.trans (congrArg some (by kernel_rfl))⟩
 f14:=⟨Tryz.f235.name,by decide,Tryz.func235.trans (congrArg some (by kernel_rfl))⟩
 f15:=Tryz.func207.trans (congrArg some (by kernel_rfl))
 f20:=⟨Tryz.f252.name,by decide,Tryz.func252.trans (congrArg some (by kernel_rfl))⟩
 f21:=⟨Tryz.f253.name,by decide,Tryz.func253.trans (congrArg some (by kernel_rfl))⟩
 f22:=⟨Tryz.f254.name,by decide,Tryz.func254.trans (congrArg some (by kernel_rfl))⟩
 f23:=⟨Tryz.f255.name,by decide,Tryz.func255.trans (congrArg some (by kernel_rfl))⟩
 f24:=⟨Tryz.f256.name,by decide,Tryz.func256.trans (congrArg some (by kernel_rfl))⟩
 f25:=⟨Tryz.f257.name,by decide,Tryz.func257.trans (congrArg some (by kernel_rfl))⟩
 f26:=⟨Tryz.f258.name,by decide,Tryz.func258.trans (congrArg some (by kernel_rfl))⟩
 f27:=⟨Tryz.f259.name,by decide,Tryz.func259.trans (congrArg some (by kernel_rfl))⟩
 f28:=Tryz.func233.trans (congrArg some (by kernel_rfl))
 f29:=Tryz.func234.trans (congrArg some (by kernel_rfl))
 f46:=⟨Tryz.f268.name,by decide,Tryz.func268.trans (congrArg some (by kernel_rfl))⟩
 f47:=Tryz.func248.trans (congrArg some (by kernel_rfl))
 f48:=Tryz.func249.trans (congrArg some (by kernel_rfl))
 f49:=⟨Tryz.f269.name,by decide,Tryz.func269.trans (congrArg some (by kernel_rfl))⟩
 f50:=⟨Tryz.f270.name,by decide,Tryz.func270.trans (congrArg some (by kernel_rfl))⟩
 f57:=⟨Tryz.f274.name,by decide,Tryz.func274.trans (congrArg some (by kernel_rfl))⟩
 t0:=Tryz.underlying0
 a0:=Tryz.isAgg0
 z0:=Tryz.sizeOf0
 v0:=Tryz.zeroValue0
 t3:=Tryz.underlying3
 a3:=Tryz.isAgg3
 z3:=Tryz.sizeOf3
 v3:=Tryz.zeroValue3
 t4:=Tryz.underlying4
 a4:=Tryz.isAgg4
 z4:=Tryz.sizeOf4
 v4:=Tryz.zeroValue4
 t5:=Tryz.underlying5
 a5:=Tryz.isAgg5
 z5:=Tryz.sizeOf5
 v5:=Tryz.zeroValue5
 t9:=Tryz.underlying9
 a9:=Tryz.isAgg9
 z9:=Tryz.sizeOf9
 v9:=Tryz.zeroValue9
 t22:=Tryz.underlying39
 a22:=Tryz.isAgg39
 z22:=Tryz.sizeOf39
 v22:=Tryz.zeroValue39
 t25:=Tryz.underlying243
 a25:=Tryz.isAgg243
 z25:=Tryz.sizeOf243
 v25:=Tryz.zeroValue243
 t39:=Tryz.underlying216
 a39:=Tryz.isAgg216
 z39:=Tryz.sizeOf216
 v39:=Tryz.zeroValue216
 t45:=Tryz.underlying261
 a45:=Tryz.isAgg261
 z45:=Tryz.sizeOf261
 v45:=Tryz.zeroValue261
 t46:=Tryz.underlying262
 a46:=Tryz.isAgg262
 z46:=Tryz.sizeOf262
 v46:=Tryz.zeroValue262
 t50:=Tryz.underlying177
 a50:=Tryz.isAgg177
 z50:=Tryz.sizeOf177
 v50:=Tryz.zeroValue177
 t53:=Tryz.underlying268
 a53:=Tryz.isAgg268
 z53:=Tryz.sizeOf268
 v53:=Tryz.zeroValue268
 t55:=Tryz.underlying270
 a55:=Tryz.isAgg270
 z55:=Tryz.sizeOf270
 v55:=Tryz.zeroValue270
 t66:=Tryz.underlying287
 a66:=Tryz.isAgg287
 z66:=Tryz.sizeOf287
 v66:=Tryz.zeroValue287
 t70:=Tryz.underlying291
 a70:=Tryz.isAgg291
 z70:=Tryz.sizeOf291
 v70:=Tryz.zeroValue291
 t76:=Tryz.underlying312
 a76:=Tryz.isAgg312
 z76:=Tryz.sizeOf312
 v76:=Tryz.zeroValue312
 t77:=Tryz.underlying313
 a77:=Tryz.isAgg313
 z77:=Tryz.sizeOf313
 v77:=Tryz.zeroValue313}
end Go.Proofs

namespace Go.Proofs.YtgoelphibofcmaaGreat.V
open Go.RowKit Go.Shelf Go.Lib Go.Sort
theorem A4 (w:World) (a b:Int):Calls Tryz.prog 178 #[.int .i64 a,.int .i64 b] w fun e w'=>e=.returned (.int .i64 (rj a b))/\w=w':=by
 go_enter Tryz.func178,Tryz.ntmps178
 go_wp2_with go_in
 all_goals
  go_ret
  exact⟨Ft (by unfold rj;split<;>(try split)<;>omega),rfl⟩
theorem LO (w:World) (a b:Int) (g:Nat) (ha:w.cell? ⟨g,0,none⟩=some (.int .i64 a)) (hb:w.cell? ⟨g,1,none⟩=some (.int .i64 b)):Calls Tryz.prog 177 #[.slice (some ⟨g,0,none⟩) 2 2] w fun e w'=>e=.returned (.int .i64 (LP a b))/\w=w':=by
 go_enter Tryz.func177,Tryz.ntmps177
 go_wp2_with fail
 go_loop [8] (fun i=>∃k:Nat,k<=2/\i=.int .i64 k/\Hid ((1<=k->a=0)/\(2<=k->b=0))) (fun i=>2-(intOf i).toNat)
 case atStart=>exact⟨0,by omega,rfl,Lib.hid ⟨fun h=>by omega,fun h=>by omega⟩⟩
 case round=>
  obtain⟨k,hk,rfl,hz⟩:=hrel
  have h3:k=0∨k=1∨k=2:=by omega
  rcases h3 with rfl|rfl|rfl
  ·go_wp2_with fail
   ·rename_i h
    go_ret
    exact⟨Ft (by unfold LP;simp_all),rfl⟩
   ·rename_i h
    go_round
    case rel=>exact⟨1,by omega,rfl,Lib.hid ⟨fun _=>by simpa using h,fun h=>by omega⟩⟩
    case measure=>simp[intOf]
  ·have h0:=hz.out.1 (by omega)
   replace h0:=Lib.hid h0
   go_wp2_with fail
   ·go_ret
    exact⟨Ft (by unfold LP;rw[if_pos h0.out]),rfl⟩
   ·rename_i h
    go_round
    case rel=>exact⟨2,by omega,rfl,Lib.hid ⟨fun _=>h0.out,fun _=>by simpa using h⟩⟩
    case measure=>simp[intOf]
  ·have h0:=Lib.hid (hz.out.1 (by omega))
   have h1:=Lib.hid (hz.out.2 (by omega))
   go_wp2_with fail
   go_ret
   exact⟨Ft (by unfold LP;rw[if_pos h0.out,h1.out]),rfl⟩
def Grown (w w':World):Prop:=∃(q:Nat) (os:Array Obj),w'=Go.Sort.grow (w.drewN q) os
theorem Grown.refl (w:World):Grown w w:=⟨0, #[],by rw[grow_empty];rfl⟩
theorem Grown.alloc {w w':World} (h:Grown w w') (o:Obj):Grown w (w'.alloc o):=by
 obtain⟨q,os,rfl⟩:=h
 exact⟨q,os++ #[o],by rw[alloc_eq_grow,grow_grow]⟩
theorem Grown.drew {w w':World} (h:Grown w w'):Grown w w'.drew:=by
 obtain⟨q,os,rfl⟩:=h
 exact⟨q+1,os,by rw[drew_grow];rfl⟩
theorem Grown.dN {w w':World} (h:Grown w w') (n:Nat):Grown w (w'.drewN n):=by
 obtain⟨q,os,rfl⟩:=h
 exact⟨q+n,os,by
  show Go.Sort.grow ((w.drewN q).drewN n) os=Go.Sort.grow (w.drewN (q+n)) os
  simp[World.drewN,Nat.add_assoc]⟩
theorem ub (w:World) (a b:aD):Calls Tryz.prog 130 #[.agg #[.int .i64 a.eY,.int .i64 a.eS],.agg #[.int .i64 b.eY,.int .i64 b.eS]] w fun e w'=>e=.returned (.int .i64 (rl a b))/\Grown w w':=by
 go_enter Tryz.func130,Tryz.ntmps130
 go_wp2_with fail
 go_region_held3 (fun w'=>w'.cell? ⟨w.heap.size,0,none⟩=some (.int .i64 a.eY)/\w'.cell? ⟨w.heap.size,1,none⟩=some (.int .i64 a.eS)/\
   w'.cell? ⟨w.heap.size+1,0,none⟩=some (.int .i64 b.eY)/\w'.cell? ⟨w.heap.size+1,1,none⟩=some (.int .i64 b.eS))
  (first|go_keep)
  (first|(go_at_call 178;refine(A4 _ _ _).mono ?_;rintro e w' ⟨rfl,rfl⟩)|(go_at_call 177;refine(LO _ (rj a.eS b.eS) (rj a.eY b.eY) _ (by simp[go_sem]) (by simp[go_sem])).mono ?_;rintro e w' ⟨rfl,rfl⟩))
 go_wp2_with fail
 go_ret
 refine⟨rfl,?_⟩
 repeat(first|(with_reducible exact Grown.refl _)|(refine Grown.alloc ?_ _)|(refine Grown.drew ?_)|(refine Grown.dN ?_ _))
end Go.Proofs.YtgoelphibofcmaaGreat.V

namespace Go.Proofs.YtgoelphibofcmaaGreat.V
open Go.RowKit Go.Shelf Go.Lib Go.Sort
instance:Inhabited ad:=⟨⟨⟨0,0⟩,0⟩⟩
variable {P:Program} {w:World} {D:Nat->Prop} {ι:Names}
def FN (a b:ad):Int:=rl a.aO b.aO
theorem uv (a b:ad):ltOf FN a b=jK a.aO b.aO:=by rw[ltOf,FN,uw]
def HF:Prop:=∀(xk off cap:Nat) (d:Array ad) (w:World),HoldsK eU 3 w xk off d->xk<w.heap.size->d.size<4611686018427387904->
 Calls Tryz.prog 209 #[.slice (some ⟨xk,off,none⟩) d.size cap,.func (.func 210) #[] #[]] w fun e w'=>e=.returned (.tuple #[])/\∃d' n os,PermIn 0 d.size d d'/\SortedIn (ltOf FN) 0 d.size d'/\w'=sortWorldK eU 3 w xk off n d' os
def HG:Prop:=∀(p:Option Addr) (cap:Nat) (fv:Value) (w:World),Calls Tryz.prog 209 #[.slice p 0 cap,fv] w fun e w'=>e=.returned (.tuple #[])/\w'=w
theorem H3 (p:ad) (j:Nat) (a:AV) (h:(aa p)[j]? =some a) (P:Program) (w:World) (D:Nat->Prop) (ι:Names):cH P w D ι a (eU p)[j]! :=by
 match j,h with
 |0,h=>simp[aa]at h;subst h;exact .eL _ _ (.int _ _)
 |1,h=>simp[aa]at h;subst h;exact .eL _ _ (.int _ _)
 |2,h=>simp[aa]at h;subst h;exact .eL _ _ (.int _ _)
 |j+3,h=>simp[aa]at h
theorem GX (hC:HF) (hN:HG) (ps:List ad) (hlen:ps.length<=1048576) (σ:ar) (id:Id) (hg:σ.get id=some ⟨true,3,ps.map aa⟩):
  Call Tryz.prog 209 [.own id 0 ps.length,.fn 210 []] σ fun r σ'=>σ'.next=σ.next/\(∀x,x≠id->σ'.get x=σ.get x)/\∃qs,σ'.get id=some ⟨true,3,qs.map aa⟩/\qs.length=ps.length/\qs.Perm ps/\∀i j:Nat,i<j->j<qs.length->jK (aI qs j).aO (aI qs i).aO=false:=by
 refine gM fun hs D ι w vs S U A=>?_
 obtain⟨u1,us1,rfl,h1,h2⟩:=yS A
 obtain⟨u2,us2,h3,h4,h5⟩:=yS h2
 simp at h3;subst h3
 have:=Jv h5
 simp at this;subst this
 obtain⟨o,cap,B,rfl,hB,Io,ho,sN,hmax,hk⟩:=iQ h1
 obtain⟨UT,gf,rfl,_,hz,_,_⟩:=z6 h4
 have hz':UT= #[]:=Array.eq_empty_of_size_eq_zero (by simpa using hz)
 subst hz'
 by_cases h0:ps=[]
 ·subst h0
  refine(hN _ _ _ w).mono ?_
  rintro e w' ⟨rfl,rfl⟩
  exact⟨.gK [],σ.get,σ.next,D,ι,_,rfl,⟨rfl,fun _ _=>rfl,[],hg,rfl,List.Perm.refl _,fun i j _ hj=>by simp at hj⟩,Step.refl _ _ _ _,S,U,Nat.le_refl _,.gK [] #[] (fun _=>Go.undef) rfl (fun j hj=>by simp at hj) (fun j a h=>by simp at h)⟩
 have kj:0<ps.length:=List.length_pos_iff.2 h0
 obtain⟨B',dz,R,kh,mi⟩:=S.row id _ hg
 rw[hB]at dz;injection dz with dz;subst dz
 replace R:=R.row hk
 have fj:B.sz=3:=R.sz
 have CE:o=0:=by rcases ho with h|h<;>omega
 subst CE
 obtain⟨cur,T,hblk,dt,EV⟩:=R.cur
 have Bo:ps.length*3<=B.C:=by simpa using R.fits
 have hH:HoldsK eU 3 w B.b 0 ps.toArray:=by
  intro t ht
  rw[size_flatK]at ht
  have ht2:t<ps.length*3:=by simpa using ht
  have hi:t / 3<ps.length:=by omega
  have CB:w.frozen? ⟨B.b,0+t,none⟩=false:=by
   simp only[World.frozen?,hblk];simp
  refine⟨?_,CB⟩
  rw[get_flatK _ _ _ _ ht]
  have hd:(ps.toArray)[t / 3]! =ps[t / 3]:=by simp[getElem!_pos,hi]
  rw[hd]
  have hj:t % 3=0∨t % 3=1∨t % 3=2:=by omega
  have ht3:0+t=(t / 3)*3+t % 3:=by omega
  rw[ht3]
  rcases hj with hj|hj|hj
  ·obtain⟨v,hv,hr⟩:=R.at_ (t / 3) 0 (aa ps[t / 3]) _ (by simp[hi]) rfl
   rw[dp hr]at hv
   rw[hj];exact hv
  ·obtain⟨v,hv,hr⟩:=R.at_ (t / 3) 1 (aa ps[t / 3]) _ (by simp[hi]) rfl
   rw[dp hr]at hv
   rw[hj];exact hv
  ·obtain⟨v,hv,hr⟩:=R.at_ (t / 3) 2 (aa ps[t / 3]) _ (by simp[hi]) rfl
   rw[dp hr]at hv
   rw[hj];exact hv
 have pW:B.b<w.heap.size:=(Array.getElem?_eq_some_iff.1 hblk).1
 have Qv:=hC B.b 0 cap ps.toArray w hH pW (by simp;omega)
 rw[show ps.toArray.size=ps.length from by simp]at Qv
 refine Qv.mono ?_
 rintro e w' ⟨rfl,d',m,os,⟨E8,_,E5⟩,hsort,rfl⟩
 have QB:d'.size=ps.length:=by rw[E8];simp
 have hql:d'.toList.length=ps.length:=by simpa using QB
 have hP:d'.toList.Perm ps:=by
  have e1:d'.extract 0 ps.length=d':=by rw[<-QB];exact Array.extract_size
  have e2:ps.toArray.extract 0 ps.length=ps.toArray:=by
   have:ps.length=ps.toArray.size:=by simp
   rw[this];exact Array.extract_size
  rw[e1,e2]at E5
  simpa using E5
 have hF:∀t,t<ps.length*3->(flatK eU 3 d')[t]! =(eU d'[t / 3]!)[t % 3]! :=fun t ht=>get_flatK _ _ _ _ (by rw[QB];exact ht)
 have hFs:(flatK eU 3 d').size=ps.length*3:=by rw[size_flatK,QB]
 have hw:sortWorldK eU 3 w B.b 0 m d' os=Go.Sort.grow (Go.Sort.putRow (fun v:Value=>v) (Go.Sort.ahead w m) B.b 0 (flatK eU 3 d')) os:=rfl
 rw[hw]
 clear hw hH
 generalize flatK eU 3 d'=Fl at hF hFs ⊢
 have vY:=S.put (r':=⟨true,3,d'.toList.map aa⟩) (cur':=Go.Sort.putCells (fun v:Value=>v) 0 Fl cur) hg rfl hB hblk (by simp[Go.Sort.putCells]) rfl rfl (by simpa[QB]using Bo) (fun cs dt=>by
   obtain⟨x,_,rfl⟩:=List.mem_map.1 dt;rfl) (fun cs dt a ha=>by
   obtain⟨x,_,rfl⟩:=List.mem_map.1 dt
   simp[aa]at ha;rcases ha with rfl|rfl|rfl<;>rfl) (fun i j cs a hi hj=>by
   have yg:i<d'.toList.length:=by
    have:=(List.getElem?_eq_some_iff.1 hi).1
    simpa using this
   have T9:j<3:=by
    have:=List.mem_of_getElem? hi
    obtain⟨x,_,rfl⟩:=List.mem_map.1 this
    exact(List.getElem?_eq_some_iff.1 hj).1
   have TQ:cs=aa d'[i]! :=by
    rw[List.getElem?_map,List.getElem?_eq_getElem yg]at hi
    simp at hi
    rw[<-hi,getElem!_pos d' i (by simpa using yg)]
   subst TQ
   have Om:i*3+j<ps.length*3:=by omega
   refine⟨(eU d'[i]!)[j]!,?_,H3 _ _ _ hj _ _ _ _⟩
   have mU:i*3+j<cur.size:=by rw[dt];omega
   show(Go.Sort.putCells (fun v:Value=>v) 0 Fl cur)[i*3+j]? = _
   simp only[Go.Sort.putCells,Array.getElem?_mapIdx,Array.getElem?_eq_getElem mU,Option.map_some]
   rw[if_pos ⟨Nat.zero_le _,by rw[hFs];omega⟩,Nat.sub_zero,hF _ Om,show(i*3+j) / 3=i from by omega,show(i*3+j) % 3=j from by omega])
 obtain⟨S1,sr⟩:=vY
 have QZ:(Go.Sort.putRow (fun v:Value=>v) (Go.Sort.ahead w m) B.b 0 Fl).heap.size=w.heap.size:=by simp
 have MD:∀k,k<(w.setRow B.b (Go.Sort.putCells (fun v:Value=>v) 0 Fl cur)).heap.size->(Go.Sort.grow (Go.Sort.putRow (fun v:Value=>v) (Go.Sort.ahead w m) B.b 0 Fl) os).heap[k]? =(w.setRow B.b (Go.Sort.putCells (fun v:Value=>v) 0 Fl cur)).heap[k]? :=fun k hk=>by
  have Gb:k<w.heap.size:=by simpa using hk
  rw[heap_grow_old _ _ (by rw[QZ];exact Gb)]
  simp only[Go.Sort.putRow,Go.Sort.mapBlock,heap_ahead,Array.getElem?_modify]
  by_cases Ua:B.b=k
  ·subst Ua
   rw[setRow_heap w B.b cur _ T _ hblk,if_pos rfl,hblk];rfl
  ·rw[if_neg Ua,setRow_other w B.b k _ (fun h=>Ua h.symm)]
 have lg:(w.setRow B.b (Go.Sort.putCells (fun v:Value=>v) 0 Fl cur)).heap.size<=(Go.Sort.grow (Go.Sort.putRow (fun v:Value=>v) (Go.Sort.ahead w m) B.b 0 Fl) os).heap.size:=by
  rw[size_grow,QZ];simp
 have S2:=S1.stay (D':=D) (ι':=ι) MD lg (fun _ h=>h) (fun b hb=>Nat.lt_of_lt_of_le (S1.dead b hb) lg) (fun _ h=>.inl h) (fun _ _ h=>h)
 have Na:=sr.trans (Step.stay (D':=D) (ι':=ι) S1 MD lg (by simp[Go.Sort.grow,Go.Sort.putRow,Go.Sort.mapBlock,Go.Sort.ahead]) (by simp[Go.Sort.grow,Go.Sort.putRow,Go.Sort.mapBlock,Go.Sort.ahead]) (by simp[Go.Sort.grow,Go.Sort.putRow,Go.Sort.mapBlock,Go.Sort.ahead]) (fun _ h=>h) (fun _ h=>.inl h) (fun _ _ h=>h))
 refine⟨.gK [],bz σ.get id ⟨true,3,d'.toList.map aa⟩,σ.next,D,ι,_,rfl,⟨rfl,fun x hx=>by simp[bz,hx],d'.toList,by simp[bz],hql,hP,fun i j Dl hj=>?_⟩,Na,S2,U,Nat.le_refl _,.gK [] #[] (fun _=>Go.undef) rfl (fun j hj=>by simp at hj) (fun j a h=>by simp at h)⟩
 have h:=hsort i j (Nat.zero_le _) Dl (by omega)
 rw[uv]at h
 have e1:d'[j]! =aI d'.toList j:=by rw[fb hj,getElem!_pos d' j (by simpa using hj)];rfl
 have hi:i<d'.toList.length:=by omega
 have e2:d'[i]! =aI d'.toList i:=by rw[fb hi,getElem!_pos d' i (by simpa using hi)];rfl
 rw[<-e1,<-e2];exact h
theorem M5 {w w':World} (h:Grown w w') (os:Array Obj):Grown w (Go.Sort.grow w' os):=by
 obtain⟨q,os0,rfl⟩:=h
 exact⟨q,os0++os,by rw[grow_grow]⟩
theorem KO (w:World) (a b:ad):Calls Tryz.prog 210 #[.agg #[.int .i64 a.aO.eY,.int .i64 a.aO.eS,.int .i64 a.aQ],.agg #[.int .i64 b.aO.eY,.int .i64 b.aO.eS,.int .i64 b.aQ]] w fun e w'=>e=.returned (.int .i64 (FN a b))/\Grown w w':=by
 go_enter Tryz.func210,Tryz.ntmps210
 go_wp2_with (first|(go_at_call 130;refine(ub _ a.aO b.aO).mono ?_;rintro e w' ⟨rfl,hG⟩))
 obtain⟨q,os,rfl⟩:=hG
 go_ret
 refine⟨rfl,M5 (Grown.dN ?_ q) os⟩
 repeat(first|(with_reducible exact Grown.refl _)|(refine Grown.alloc ?_ _)|(refine Grown.drew ?_)|(refine Grown.dN ?_ _))
theorem US:SWO (ltOf FN) where
 irrefl x:=by rw[uv];exact mW
 trans x y z h1 h2:=by rw[uv]at *;exact jQ h1 h2
 ntrans x y z h1 h2:=by rw[uv]at *;rw[pj]at *;omega
theorem OR:HF:=fun xk off cap d w hH hblk fj=>by
 have eg:∀args w,(callFunc 210 args).run Tryz.prog w=.ok (.enter 210 args) w:=enters_of Tryz.func210 (by kernel_rfl) rfl
 have h:=AnyQ.slices_SortFunc Tryz.JL 3 Tryz.isAgg137 Tryz.sizeOf137 eU (fun _=>rfl) (fun x v hv=>by simp[eU]at hv;rcases hv with rfl|rfl|rfl<;>rfl) FN US 210 #[] xk off cap d w eg (fun m os dk _ x y=>(KO _ x y).mono fun _ _ ⟨he,q,os',hw⟩=>⟨he,q,os',hw⟩) hH hblk fj
 exact h
theorem OS:HG:=fun p cap fv w=>AnyF.slices_SortFunc_none Tryz.JL p cap fv w
end Go.Proofs.YtgoelphibofcmaaGreat.V

namespace Go.Proofs.YtgoelphibofcmaaGreat.V
open Go.RowKit
attribute [local irreducible] dI wpOps gD Call
attribute [local go_sem] aM fM eP gp gm cN upd cD K.av cR AV.cells AV.cell rowOf rowsOf part ld rowAt bz cu dG ef ik bQ dh eA gj e9 dq ek dd dc dU dV bW bf cW bV cY cX ei eo ej cV ck de eh bU aT da cG ij bx cQ b4 aY dn bc dH AV.undef bF bI eb ee dP dM cJ ez eE cF er ep cZ db List.getD_cons_zero List.getD_cons_succ List.getD_nil List.all_cons List.all_nil Bool.and_true Bool.true_and Bool.and_self Bool.not_true Bool.not_false Option.map_some Option.map_none Option.bind_some Option.bind_none List.length_cons List.length_nil List.take_succ_cons List.take_zero List.take_nil List.drop_succ_cons List.drop_zero List.drop_nil List.head?_cons List.map_cons List.map_nil List.getElem?_cons_zero List.getElem?_cons_succ List.cons_append List.nil_append List.append_nil List.length_map List.set_cons_zero List.set_cons_succ Nat.reduceMul eq_self Int.toNat_natCast Int.natCast_nonneg and_self true_and and_true decide_true decide_false Bool.false_eq_true Nat.zero_add Nat.add_zero List.contains_cons List.contains_nil Bool.or_false Bool.false_or beq_self_eq_true Nat.reduceBEq ne_eq not_true_eq_false not_false_eq_true Id.mk.injEq false_and and_false Nat.reduceLT Int.reduceLE Int.reduceLT Int.reduceToNat Int.reduceNeg Int.reduceAdd Nat.le_refl List.length_append beq_true beq_false Bool.not_eq_eq_eq_not or_false false_or dO ai aj aH bp bE cz aX bl aW bj cU bH
theorem Rq {σ:ar} {c T O:Id} {s:aA} {ts:List ad} (h:lP σ.get σ.next c T O s ts) (hS:iF s.aE) (hF:∀q,0<=gx ts q->eK s.aE (gx ts q)=true) (p:aD) (hp:Cb p=true) (t:Int) (ht:eK s.aE t=true) (h0:eD ts p<0):
  Call Tryz.prog 134 [.ptr c 0 0,.agg (ae p),.int .i64 t] σ (fun r σ'=>r=.gK []/\lP σ'.get σ'.next c T O s (ts++[⟨p,t⟩])/\σ.next<=σ'.next/\∀x:Id,x.bP<σ.next->x≠T->x≠O->σ'.get x=σ.get x):=by
 refine eT eB rfl fun lj=>?_
 clear lj
 obtain⟨hx,hy⟩:=s7 hp
 have lk:=lI.1 h0
 have K0:∀q,0<=gx (ts++[⟨p,t⟩]) q->eK s.aE (gx (ts++[⟨p,t⟩]) q)=true:=fun q hq=>by
  rw[zf q lk]at hq ⊢
  split at hq
  ·rename_i he;rw[if_pos he];exact ht
  ·rename_i he;rw[if_neg he];exact hF q hq
 obtain⟨rows,ho,hw⟩:=h.op
 obtain⟨fi,F9⟩:=Ca hw p.eY p.eS
 have h1:=h.row
 have h2:=h.tl
 have v1:=dw h.cv
 have v2:=dw h.tv
 have v3:=dw h.ov
 have hm:=qI h0
 have cT:=eq_false h.cT
 have cO:=eq_false h.cO
 have TO:=eq_false h.TO
 have Tc:=eq_false (fun e:T=c=>h.cT e.symm)
 have Oc:=eq_false (fun e:O=c=>h.cO e.symm)
 have OT:=eq_false (fun e:O=T=>h.TO e.symm)
 (try((repeat(revert hN;revert N;apply Pn.out));refine wk (tw @h1 (tw @h2 (tw @ho (tw @v1 (tw @v2 (tw @v3 (tw @hm (tw @F9 (tw @cT (tw @cO (tw @TO (tw @Tc (tw @Oc (tw @OT @ae.eq_1)))))))))))))) ?_;(repeat(refine Pn.mk ?_;intro N hN))))
 have hG:∀x:Id,x.bP<σ.next->x≠T->x≠O->(bz (bz (bz σ.get ⟨134000000,σ.next⟩ ⟨true,2,[[.int .i64 p.eY,.int .i64 p.eS]]⟩) T ⟨true,mP.pq,ts.map aa++[[.int .i64 p.eY,.int .i64 p.eS,.int .i64 t]]⟩) O ⟨true,mP.pq,dM rows fi⟩) x=σ.get x:=fun x Ou UK MO=>by
  have a1:=eq_false UK
  have a2:=eq_false MO
  have a3:=dw Ou
  simp only[go_sem, ↓reduceIte,Nat.reduceEqDiff,Nat.reduceAdd,Nat.reduceSub,Nat.reduceLeDiff,reduceCtorEq,a1,a2,a3]
 have hC:lP (bz (bz (bz σ.get ⟨134000000,σ.next⟩ ⟨true,2,[[.int .i64 p.eY,.int .i64 p.eS]]⟩) T ⟨true,mP.pq,ts.map aa++[[.int .i64 p.eY,.int .i64 p.eS,.int .i64 t]]⟩) O ⟨true,mP.pq,dM rows fi⟩) (σ.next+1+1+1+1) c T O s (ts++[⟨p,t⟩]):=
  ⟨(hG c h.cv h.cT h.cO).trans h1,by simp only[go_sem, ↓reduceIte,Nat.reduceEqDiff,Nat.reduceAdd,Nat.reduceSub,Nat.reduceLeDiff,reduceCtorEq,TO];rw[List.map_append];rfl,⟨_,sd @Nat.zero_add,Jp hw fi⟩,by have:=h.cv;omega,by have:=h.tv;omega,by have:=h.ov;omega,h.cT,h.cO,h.TO⟩
 refine .inr (aJ _ _ _ _ _ (fun r σ1 hq=>?_) (rJ (σ:=⟨_,σ.next+1+1+1+1⟩) hC.xc hC.cO hC.TO hC.op hS K0 p hx hy))
 obtain⟨g1,x1⟩:=σ1
 obtain⟨rfl,hL⟩:=hq
 (try dsimp only at hL)
 have Ik:=hC.look (σ:=⟨_,σ.next+1+1+1+1⟩) hL
 have hn:=hL.1
 have hf:=hL.2.1
 (try dsimp only at hn hf)
 refine hN _ _ ?_
 clear hN N
 (try((repeat(revert hN;revert N;apply Pn.out));refine wk @Nat.zero_add ?_;(repeat(refine Pn.mk ?_;intro N hN))))
 exact fw (.inr rfl) (vs:=[]) rfl ⟨rfl,Ik.frame (by(try dsimp only);omega) fun _ _=>rfl,by(try dsimp only);omega,fun x Ou UK MO=>(hf x (by omega) MO).trans (hG x Ou UK MO)⟩
end Go.Proofs.YtgoelphibofcmaaGreat.V

namespace Go.Proofs.YtgoelphibofcmaaGreat.V
open Go.RowKit
def Cg (m:MK) (it nx ok en:Nat) (id:Id) (B:(Ex->Env->ar->Prop)->Env->ar->Prop) (b b1:Nat) (Q:Ex->Env->ar->Prop):Nat->List (List AV)->Env->ar->Prop
 |0,_,env,σ=>env it=.ptr id 0 0/\Q .normal (upd (upd env (some nx) (.gK [.bool false])) (some ok) (.bool false)) ⟨σ.get,σ.next+1⟩
 |n+1,left,env,σ=>env it=.ptr id 0 0/\∀i cs kv vv,left[i]? =some cs->part m.ka m.ks cs=some kv->cs[m.ks]? =some vv->
   B (bc b1 (dn (Cg m it nx ok en id B b b1 Q n (left.eraseIdx i)) (bc b Q))) (upd (upd (upd env (some nx) (.gK [.bool true,kv,vv])) (some ok) (.bool true)) (some en) (.gK [kv,vv])) ⟨σ.get,σ.next+1⟩
def GR (m:MK) (tm:O) (site it nx ok en:Nat) (B:(Ex->Env->ar->Prop)->Env->ar->Prop) (b b1:Nat) (Q:Ex->Env->ar->Prop) (env:Env) (σ:ar):Prop:=
 ∃id r,cN env tm=.map id m/\σ.get id=some r/\r.w=true/\Cg m it nx ok en ⟨site,σ.next⟩ B b b1 Q r.rows.length r.rows (upd env (some it) (.ptr ⟨site,σ.next⟩ 0 0)) ⟨bz σ.get id {r with w:=false},σ.next+1⟩
variable {P:Program} {w w':World} {D D':Nat->Prop} {ι ι':Names} {hs:Nat} {g:Rows}
theorem jG.C9 (hc:∀b x,D b->w'.cell? ⟨b,x,none⟩=w.cell? ⟨b,x,none⟩) {a:AV} {v:Value} (h:jG P w D a v):jG P w' D a v:=by
 induction h with
 |int k n=>exact .int k n
 |bool b=>exact .bool b
 |str s=>exact .str s
 |cq=>exact .cq
 |gR=>exact .gR
 |ja=>exact .ja
 |jk=>exact .jk
 |AH a c h=>exact .AH a c h
 |sl rows b o n c sz vs h1 h2 h3 h4 h5 h5' h6 _ ih=>exact .sl rows b o n c sz vs h1 h2 h3 h4 h5 h5' (fun i j hi hj=>(hc b _ h4).trans (h6 i j hi hj)) ih
 |di cs b o vs h1 NF h2 _ ih=>exact .di cs b o vs h1 NF (fun j hj=>(hc b _ h1).trans (h2 j hj)) ih
 |agg cs vs f h1 h2 h3 _ ih=>exact .agg cs vs f h1 h2 h3 ih
 |fn f cK vs g h1 h2 h3 _ ih=>exact .fn f cK vs g h1 h2 h3 ih
theorem cH.C9 (hc:∀b x,D b->w'.cell? ⟨b,x,none⟩=w.cell? ⟨b,x,none⟩) {a:AV} {v:Value} (h:cH P w D ι a v):cH P w' D ι a v:=by
 induction h with
 |eL a v h=>exact .eL a v (h.C9 hc)
 |map id m B h1 h2=>exact .map id m B h1 h2
 |rh id c B h1 h2=>exact .rh id c B h1 h2
 |own id off len o cap B h1 h2 h3 h4 h5 h6=>exact .own id off len o cap B h1 h2 h3 h4 h5 h6
 |ptr id i off B h1 h2=>exact .ptr id i off B h1 h2
 |agg cs vs f h1 h2 h3 _ ih=>exact .agg cs vs f h1 h2 h3 ih
 |gK cs vs f h1 h2 _ ih=>exact .gK cs vs f h1 h2 ih
 |fn f cK vs g h1 h2 h3 _ ih=>exact .fn f cK vs g h1 h2 h3 ih
 |tO f cK vs g h1 h2 h3 _ ih=>exact .tO f cK vs g h1 h2 h3 ih
def mL (w:World) (rr:Nat):Prop:=∃m s seen c,w.heap[rr]? =some (.mapIter m s seen c)
theorem mL.cell {rr:Nat} (h:mL w rr) (x:Nat):w.cell? ⟨rr,x,none⟩=none:=by
 obtain⟨m,s,seen,c,h⟩:=h
 simp[World.cell?,h]
theorem gL.Ji {B:si} {r:Row} (R:gL P w D ι B r):¬mL w B.b:=by
 rintro⟨m,s,seen,c,h⟩
 cases hk:B.k with
 |none=>obtain⟨c',T,h3,_⟩:=(R.row hk).xk;rw[h]at h3;cases h3
 |some k=>
  cases k with
  |map m=>obtain⟨_,es,c',h3,_⟩:=R.map m hk;rw[h]at h3;cases h3
  |chan c=>obtain⟨_,buf,s',q,h3,_⟩:=R.chan c hk;rw[h]at h3;cases h3
theorem yy {rr:Nat} (h:mL w rr) (h':mL w' rr) (ho:∀b,b≠rr->w'.heap[b]? =w.heap[b]?):(∀{a v},cH P w D ι a v->cH P w' D ι a v):=fun hr=>hr.C9 fun b x _=>by
 by_cases hb:b=rr
 ·subst hb;rw[h.cell,h'.cell]
 ·exact World.cell?_of_block (ho b hb)
theorem gr.iter {rr:Nat} (S:gr P hs D ι g w) (h:mL w rr) (h':mL w' rr) (ho:∀b,b≠rr->w'.heap[b]? =w.heap[b]?) (hz:w'.heap.size=w.heap.size):gr P hs D ι g w':=
 ⟨by rw[hz];exact S.lo,fun b hb=>by rw[hz];exact S.dead b hb,fun id r hg=>by
  obtain⟨B,hB,R,k1,k2⟩:=S.row id r hg
  exact⟨B,hB,R.frame (ho _ fun e=>R.Ji (e▸h)) fun a v hr=>yy h h' ho hr,k1,k2⟩,S.inj⟩
theorem mJ {ops:Array Oper} {Q:Exit->Act->World->Prop} {a:Act} {o:Oper} {l:List Oper} {v:Value} (hg:o.guard=none) (fY:(execOp a.eval o).run P w=.ok (.value v) w') (h:wpList P ops Q l (a.put o.dst v) w'):wpList P ops Q (o::l) a w:=by
 unfold wpList
 rw[if_pos (by simp[Region.wanted,hg])]
 exact .inl (by unfold Oper.wp;rw[fY];exact h)
theorem Jz {x y:AV} {u v:Value} (h1:cH P w D ι x u) (h2:cH P w D ι y v):cH P w D ι (.gK [x,y]) (.tuple #[u,v]):=
 .gK _ _ (fun j=>if j=0 then u else v) rfl (fun j hj=>by match j,hj with|0,_=>rfl|1,_=>rfl|j+2,hj=>simp at hj;omega) (fun j a ha=>by match j,ha with|0,ha=>simp at ha;subst ha;exact h1|1,ha=>simp at ha;subst ha;exact h2|j+2,ha=>simp at ha)
theorem JA {x y z:AV} {u v t:Value} (h1:cH P w D ι x u) (h2:cH P w D ι y v) (h3:cH P w D ι z t):cH P w D ι (.gK [x,y,z]) (.tuple #[u,v,t]):=
 .gK _ _ (fun j=>if j=0 then u else if j=1 then v else t) rfl (fun j hj=>by match j,hj with|0,_=>rfl|1,_=>rfl|2,_=>rfl|j+3,hj=>simp at hj;omega) (fun j a ha=>by match j,ha with|0,ha=>simp at ha;subst ha;exact h1|1,ha=>simp at ha;subst ha;exact h2|2,ha=>simp at ha;subst ha;exact h3|j+3,ha=>simp at ha)
theorem Jy {x:AV} {u:Value} (h1:cH P w D ι x u):cH P w D ι (.gK [x]) (.tuple #[u]):=
 .gK _ _ (fun _=>u) rfl (fun j hj=>by match j,hj with|0,_=>rfl|j+1,hj=>simp at hj) (fun j a ha=>by match j,ha with|0,ha=>simp at ha;subst ha;exact h1|j+1,ha=>simp at ha)
structure Mn (P:Program) (w:World) (D:Nat->Prop) (ι:Names) (m:MK) (L:List MapEntry) (left:List (List AV)):Prop where
 len:left.length=L.length
 at_:∀(i:Nat) (cs:List AV),left[i]? =some cs->∃(e:MapEntry) (kv vv:AV),L[i]? =some e/\part m.ka m.ks cs=some kv/\cs[m.ks]? =some vv/\cH P w D ι kv e.key/\cH P w D ι vv e.val
theorem Mn.rep {m:MK} {L:List MapEntry} {left:List (List AV)} (h:Mn P w D ι m L left) (hr:∀{a v},cH P w D ι a v->cH P w' D' ι' a v):Mn P w' D' ι' m L left:=⟨h.len,fun i cs hi=>by
 obtain⟨e,kv,vv,h1,h2,h3,h4,h5⟩:=h.at_ i cs hi
 exact⟨e,kv,vv,h1,h2,h3,hr h4,hr h5⟩⟩
theorem mT {α β:Type} {l:List α} {k:List β} {i j:Nat} {x:α} (hl:l.length=k.length) (h:(l.eraseIdx i)[j]? =some x):∃q:Nat,l[q]? =some x/\(k.eraseIdx i)[j]? =k[q]? :=by
 rw[List.getElem?_eraseIdx]at h
 split at h
 ·rename_i hj;exact⟨j,h,by rw[List.getElem?_eraseIdx,if_pos hj]⟩
 ·rename_i hj;exact⟨j+1,h,by rw[List.getElem?_eraseIdx,if_neg hj]⟩
theorem Mn.erase {m:MK} {L:List MapEntry} {left:List (List AV)} (h:Mn P w D ι m L left) {i:Nat} (hi:i<L.length):Mn P w D ι m (L.eraseIdx i) (left.eraseIdx i):=⟨by
 rw[List.length_eraseIdx,List.length_eraseIdx,h.len],fun j cs hj=>by
 obtain⟨q,hq,he⟩:=mT h.len hj
 obtain⟨e,kv,vv,h1,h2⟩:=h.at_ q cs hq
 exact⟨e,kv,vv,he.trans h1,h2⟩⟩
theorem nC:∀{l:List MapEntry} {i:Nat} {e:MapEntry},(l.map (·.born)).Nodup->l[i]? =some e->l.filter (fun x=>x.born !=e.born)=l.eraseIdx i
 |x::l,0,e,hn,h=>by
  simp at h;subst h
  obtain⟨h1,h2⟩:=List.nodup_cons.1 (show(x.born::l.map (·.born)).Nodup from hn)
  rw[List.filter_cons,if_neg (by simp),List.eraseIdx_cons_zero]
  refine List.filter_eq_self.2 fun y hy=>?_
  have:y.born≠x.born:=fun hc=>h1 (by rw[<-hc];exact List.mem_map_of_mem hy)
  simpa using this
 |x::l,i+1,e,hn,h=>by
  obtain⟨h1,h2⟩:=List.nodup_cons.1 (show(x.born::l.map (·.born)).Nodup from hn)
  simp only[List.getElem?_cons_succ]at h
  have hx:x.born≠e.born:=fun hc=>h1 (by rw[hc];exact List.mem_map_of_mem (List.mem_of_getElem? h))
  rw[List.filter_cons,if_pos (by simpa using hx),List.eraseIdx_cons_succ,nC h2 h]
theorem DG {es:Array MapEntry} {clock:Nat} {seen:Array Nat} {i:Nat} {e:MapEntry} (hs:KH es clock) (h:(leftOf es seen).toList[i]? =some e):(leftOf es (seen.push e.born)).toList=(leftOf es seen).toList.eraseIdx i:=by
 have hn:((leftOf es seen).toList.map (·.born)).Nodup:=by
  unfold leftOf
  rw[Array.toList_filter]
  exact((List.filter_sublist (p:=fun e=> !seen.contains e.born) (l:=es.toList)).map MapEntry.born).nodup hs.2
 rw[<-nC hn h]
 unfold leftOf
 rw[Array.toList_filter,Array.toList_filter,List.filter_filter]
 refine List.filter_congr fun x _=>?_
 rw[contains_push]
 cases seen.contains x.born<;>cases hb:(x.born==e.born)<;>simp_all
theorem eval_put {a:Act} {d:Nat} {v:Value} (h:d<a.tmps.size):(a.put (some d) v).eval (.tmp d)=v:=by
 simp[Act.put,Act.eval,h]
def JE (ix ie b b1 ok:Nat) (DO GG DN:Oper) (rQ:List Oper) (nB:Code):Code:=
 .seq (.region ix #[DO,GG] false) (.seq (.cond (.tmp ok) .skip (.exit b)) (.block b1 (.seq (.region ie (DN::rQ).toArray false) nB)))
structure HD (P:Program) (md:List (Nat×Nat)) (nt fid s0 it nx ok en:Nat) (DO GG DN:Oper) (rQ:List Oper) (nB:Code) (vE:List bd) (sf:VC):Prop where
 h1:DO.op=.next (.tmp it) false
 h2:DO.dst=some nx
 h3:DO.guard=none
 h4:GG.op=.extract (.tmp nx) 0
 h5:GG.dst=some ok
 h6:GG.guard=none
 h7:DN.op=.entry (.tmp it)
 h8:DN.dst=some en
 h9:DN.guard=none
 PT:nx<nt
 SM:ok<nt
 lt3:en<nt
 ne1:it≠nx
 ne2:it≠ok
 hE:allM (kH P (DN::rQ).toArray nt s0 false false #[] []) rQ 1=some vE
 hR:jq P md nt fid nB=some sf
theorem DX (hm:P.follows .mixedOrders=true) {md:List (Nat×Nat)} {nt fid s0 ix ie b b1 it nx ok en:Nat} {m:MK} {id:Id} {DO GG DN:Oper} {rQ:List Oper} {nB:Code} {vE:List bd} {sf:VC}
  (O:HD P md nt fid s0 it nx ok en DO GG DN rQ nB vE sf) {rr bm:Nat} {es:Array MapEntry} {clock:Nat} (Gf:KH es clock) {ds:List Deferred} {n0:Nat} {D0:Nat->Prop} {ι0:Names} {w0:World} {Q:Ex->Env->ar->Prop} {Q':Exit->Act->World->Prop}
  (hQ:tq P hs nt ds Q n0 D0 ι0 w0 Q') (hD0:¬D0 rr) (hrr:hs<=rr) (gW:bm≠rr):
  ∀(n:Nat) (left:List (List AV)) (env:Env) (σ:ar) (a:Act) (w:World) (D:Nat->Prop) (ι:Names) (seen:Array Nat),
   Cg m it nx ok en id (dI (Sound P) (.seq (.eI false vE) sf)) b b1 Q n left env σ->St P hs nt D ι env σ a w->a.defers=ds->n0<=σ.next->Step hs D0 ι0 w0 D ι w->
   (∃sz C,ι id=some ⟨rr,sz,C,none⟩)->D rr->D bm->w.heap[rr]? =some (.mapIter (some bm) clock seen clock)->w.heap[bm]? =some (.map es clock)->left.length=n->Mn P w D ι m (leftOf es seen).toList left->
   pk P (JE ix ie b b1 ok DO GG DN rQ nB) (Exit.inBlock b Q') (n+1) a w:=by
 intro n
 induction n with
 |zero=>
  intro left env σ a w D ι seen hv dE hd Hn T hid Tr To hr hb hlen hL
  obtain⟨K8,hq⟩:=hv
  have ha:a.tmps.getD it undef=.pointer (some ⟨rr,0,none⟩):=by
   have:=dE.env it
   rw[K8]at this
   obtain⟨B,e,hB,_⟩:=iA this
   obtain⟨sz,C,hid⟩:=hid
   rw[hid]at hB;injection hB with hB;subst hB
   simpa using e
  have Sc:a.eval (.tmp it)=.pointer (some ⟨rr,0,none⟩):=ha
  rcases run_next_at (P:=P) w DO.type rr bm clock clock seen es clock hr hb Gf.1 (Nat.le_refl _)with⟨_,fY⟩|⟨e,he,_⟩
  rotate_left
  ·have h0:(leftOf es seen).toList=[]:=List.eq_nil_of_length_eq_zero (by rw[<-hL.len,hlen])
   rw[h0]at he;simp at he
  have E8:nx<a.tmps.size:=by rw[dE.size];exact O.PT
  have E2:=iv (iv dE.env (Jy (.eL _ _ (.bool false))) (dst:=some nx) (fun d h=>by cases h;exact O.PT) dE.size) (.eL _ _ (.bool false)) (dst:=some ok) (fun d h=>by cases h;exact O.SM) (by rw[eV];exact dE.size)
  show Ax P (.seq _ _) _ a w
  refine lL (km (wp_region_list ?_))
  refine mJ (v:=.tuple #[.bool false]) (w':=w) O.h3 (by simp[execOp,O.h1,Sc,fY,Result.andThen]) ?_
  refine mJ (v:=.bool false) (w':=w) O.h6 (by rw[O.h2];simp[execOp,O.h4,eval_put E8,Instr.extract]) ?_
  rw[O.h2,O.h5]
  refine lL (wq (t:=false) (eval_put (by rw[eV,dE.size];exact O.SM)) (km (wp_exit ?_)))
  show Exit.inBlock b Q' (.exit b) _ _
  simp only[Exit.inBlock,if_true]
  exact hQ .normal _ ⟨σ.get,σ.next+1⟩ _ w D ι hq T ⟨dE.ta,dE.used.next,E2,by rw[eV,eV];exact dE.size⟩ (by rw[put_defers,put_defers];exact hd) (Nat.le_succ_of_le Hn)
 |succ n ih=>
  intro left env σ a w D ι seen hv dE hd Hn T hid Tr To hr hb hlen hL
  obtain⟨K8,hq⟩:=hv
  have ha:a.tmps.getD it undef=.pointer (some ⟨rr,0,none⟩):=by
   have:=dE.env it
   rw[K8]at this
   obtain⟨B,e,hB,_⟩:=iA this
   obtain⟨sz,C,hid⟩:=hid
   rw[hid]at hB;injection hB with hB;subst hB
   simpa using e
  have Sc:a.eval (.tmp it)=.pointer (some ⟨rr,0,none⟩):=ha
  rcases run_next_at (P:=P) w DO.type rr bm clock clock seen es clock hr hb Gf.1 (Nat.le_refl _)with⟨h0,_⟩|⟨e,he,w1,nU,fY⟩
  ·have:=hL.len
   rw[hlen,Array.length_toList]at this;omega
  obtain⟨i,hi,Hl⟩:=List.getElem_of_mem he
  have QK:(leftOf es seen).toList[i]? =some e:=by rw[List.getElem?_eq_getElem hi,Hl]
  have lD:i<left.length:=by rw[hL.len];exact hi
  obtain⟨e',kv,vv,q1,q2,q3,q4,q5⟩:=hL.at_ i left[i] (List.getElem?_eq_getElem lD)
  rw[QK]at q1;injection q1 with q1;subst q1
  replace hq:=hq i left[i] kv vv (List.getElem?_eq_getElem lD) q2 q3
  have Od:w1.heap[rr]? =some (.mapIter (some bm) clock seen clock):=by rcases nU with rfl|rfl<;>exact hr
  have eC:=MapKept.heap_set (o':=.mapIter (some bm) clock (seen.push e.born) clock) Od
  obtain⟨w2,pQ⟩:∃w2,ChangeMaps.setBlock w1 rr (.mapIter (some bm) clock (seen.push e.born) clock)=w2:=⟨_,rfl⟩
  have ho:∀k,k≠rr->w2.heap[k]? =w.heap[k]? :=fun k hk=>by
   rw[<-pQ]
   refine(eC.2 k hk).trans ?_
   rcases nU with rfl|rfl<;>rfl
  have hz:w2.heap.size=w.heap.size:=by
   rw[<-pQ]
   rcases nU with rfl|rfl<;>simp[ChangeMaps.setBlock]
  have Dp:w2.heap[rr]? =some (.mapIter (some bm) clock (seen.push e.born) clock):=by rw[<-pQ];exact eC.1
  have xz:w2.os=w.os/\w2.tape=w.tape/\w2.output=w.output:=by
   rw[<-pQ]
   rcases nU with rfl|rfl<;>exact⟨rfl,rfl,rfl⟩
  rw[pQ]at fY
  clear pQ eC
  have I1:mL w rr:=⟨_,_,_,_,hr⟩
  have I2:mL w2 rr:=⟨_,_,_,_,Dp⟩
  have rt:∀{a v},cH P w D ι a v->cH P w2 D ι a v:=yy I1 I2 ho
  have S2:=dE.ta.iter I1 I2 ho hz
  have T2:Step hs D0 ι0 w0 D ι w2:=⟨⟨xz.1.trans T.below.os,xz.2.1.trans T.below.tape,xz.2.2.trans T.below.output,by rw[hz];exact T.below.size,fun k hk=>(ho k (by omega)).trans (T.below.block k hk)⟩,fun k hk=>(ho k (fun hc=>hD0 (hc▸hk))).trans (T.qD k hk),T.dead,T.names,T.new⟩
  have F5:w2.heap[bm]? =some (.map es clock):=(ho bm gW).trans hb
  have E8:nx<a.tmps.size:=by rw[dE.size];exact O.PT
  have E1:cm P w2 D ι env a:=fun t=>rt (dE.env t)
  have E2:=iv (iv E1 (JA (.eL _ _ (.bool true)) (rt q4) (rt q5)) (dst:=some nx) (fun d h=>by cases h;exact O.PT) dE.size) (.eL _ _ (.bool true)) (dst:=some ok) (fun d h=>by cases h;exact O.SM) (by rw[eV];exact dE.size)
  have E3:=iv E2 (Jz (rt q4) (rt q5)) (dst:=some en) (fun d h=>by cases h;exact O.lt3) (by rw[eV,eV];exact dE.size)
  have Hi:=run_entry_at (P:=P) w2 rr bm clock seen es clock e Dp F5 (mem_left he).1 Gf.2
  show Ax P (.seq _ _) _ a w
  refine lL (km (wp_region_list ?_))
  refine mJ (v:=.tuple #[.bool true,e.key,e.val]) (w':=w2) O.h3 (by simp[execOp,O.h1,Sc,fY,Result.andThen]) ?_
  refine mJ (v:=.bool true) (w':=w2) O.h6 (by rw[O.h2];simp[execOp,O.h4,eval_put E8,Instr.extract]) ?_
  rw[O.h2,O.h5]
  refine lL (wq (t:=true) (eval_put (by rw[eV,dE.size];exact O.SM)) (km (wp_skip ?_)))
  refine s4 (lL (km (wp_region_list ?_)))
  show wpList P _ _ (DN::rQ) _ _
  have ha3:(((a.put (some nx) (.tuple #[.bool true,e.key,e.val])).put (some ok) (.bool true)).eval (.tmp it))=.pointer (some ⟨rr,0,none⟩):=by
   have n1:=O.ne1
   have n2:=O.ne2
   rw[<-Sc]
   simp[Act.put,Act.eval,Array.getD_eq_getD_getElem?,Array.getElem?_setIfInBounds,Ne.symm n1,Ne.symm n2]
  refine mJ (v:=.tuple #[e.key,e.val]) (w':=w2) O.h9 (by simp[execOp,O.h7,ha3,Hi,Result.andThen]) ?_
  rw[O.h8]
  refine yM rQ vE 1 _ ⟨σ.get,σ.next+1⟩ _ w2 D ι (fun _=>False) O.hE hq S2 dE.used.next (fun _ h=>h.elim) E3 (by rw[eV,eV,eV];exact dE.size) fun Tg σ3 a3 w3 D3 ι3 hk T3 St3 Qy Ue=>?_
  refine qi hm nB sf O.hR _ Tg σ3 a3 w3 D3 ι3 _ hk St3 fun ex H5 σ4 a4 w4 D4 ι4 IH T4 S5 Qz Uf=>?_
  have TU:a4.defers=ds:=by rw[Qz,Qy,put_defers,put_defers,put_defers];exact hd
  have Uo:n0<=σ4.next:=Nat.le_trans Hn (Nat.le_trans (Nat.le_succ _) (Nat.le_trans Ue Uf))
  have Nb:=T3.trans T4
  have TT:=T2.trans Nb
  have tQ:Cg m it nx ok en id (dI (Sound P) (.seq (.eI false vE) sf)) b b1 Q n (left.eraseIdx i) H5 σ4->pk P (JE ix ie b b1 ok DO GG DN rQ nB) (Exit.inBlock b Q') (n+1) a4 w4:=fun hq5=>by
   refine ih (left.eraseIdx i) H5 σ4 a4 w4 D4 ι4 (seen.push e.born) hq5 S5 TU Uo TT ?_ (Nb.dead _ Tr) (Nb.dead _ To) ((Nb.qD _ Tr).trans Dp) ((Nb.qD _ To).trans F5) ?_ ?_
   ·obtain⟨sz,C,hid⟩:=hid;exact⟨sz,C,Nb.names _ _ hid⟩
   ·rw[List.length_eraseIdx,if_pos lD,hlen];rfl
   ·rw[DG Gf QK]
    exact(hL.erase hi).rep fun hr=>Nb.rep (rt hr)
  have out:∀ex,ex≠.normal->Q ex H5 σ4->Q' (RX ex) a4 w4:=fun ex _ h=>hQ ex H5 σ4 a4 w4 D4 ι4 h TT S5 TU Uo
  cases ex with
  |normal=>exact tQ IH
  |ret=>exact out .ret (by simp) IH
  |exit jW=>
   simp only[bc]at IH
   simp only[RX,Exit.inBlock]
   by_cases h1:jW=b1
   ·rw[if_pos h1]at IH ⊢
    exact tQ IH
   ·rw[if_neg h1]at IH ⊢
    simp only[dn,bc]at IH
    show Exit.inBlock b Q' (.exit jW) a4 w4
    simp only[Exit.inBlock]
    by_cases h2:jW=b
    ·rw[if_pos h2]at IH ⊢
     exact hQ .normal H5 σ4 a4 w4 D4 ι4 IH TT S5 TU Uo
    ·rw[if_neg h2]at IH ⊢
     exact out (.exit jW) (by simp) IH
def CS (P:Program) (nt:Nat) (c:Code) (W:(Ex->Env->ar->Prop)->Env->ar->Prop):Prop:=
 ∀(hs:Nat) (Q:Ex->Env->ar->Prop) (env:Env) (σ:ar) (a:Act) (w:World) (D:Nat->Prop) (ι:Names) (Q':Exit->Act->World->Prop),W Q env σ->St P hs nt D ι env σ a w->tq P hs nt a.defers Q σ.next D ι w Q'->Ax P c Q' a w
theorem CS.code (hm:P.follows .mixedOrders=true) {md:List (Nat×Nat)} {nt fid:Nat} {c:Code} {vc:VC} (h:jq P md nt fid c=some vc):CS P nt c (dI (Sound P) vc):=
 fun _ Q env σ a w D ι Q' hv dE hQ=>qi hm c vc h Q env σ a w D ι Q' hv dE hQ
theorem CS.seq {nt:Nat} {x y:Code} {V W:(Ex->Env->ar->Prop)->Env->ar->Prop} (h:CS P nt x V) (k:CS P nt y W):CS P nt (.seq x y) (fun Q=>V (dn (W Q) Q)):=fun hs Q env σ a w D ι Q' hv dE hQ=>by
 refine lL (h hs _ env σ a w D ι _ hv dE fun ex jh σ1 a1 w1 D1 ι1 hq T j8 hd hle=>?_)
 cases ex with
 |normal=>exact k hs Q jh σ1 a1 w1 D1 ι1 Q' hq j8 (by rw[hd];exact hQ.later T hle)
 |exit id=>exact hQ (.exit id) jh σ1 a1 w1 D1 ι1 hq T j8 hd hle
 |ret=>exact hQ .ret jh σ1 a1 w1 D1 ι1 hq T j8 hd hle
theorem CS.rng (hm:P.follows .mixedOrders=true) {md:List (Nat×Nat)} {nt fid s0 sA site ia ix ie b b1 it nx ok en:Nat} {m:MK} {DO GG DN DR:Oper} {Js rQ:List Oper} {nB:Code} {vA vE:List bd} {sf:VC} {t k e:TypeId} {tm:Operand} {tm':O}
  (O:HD P md nt fid s0 it nx ok en DO GG DN rQ nB vE sf) (h1:DR.op=.range t tm) (h2:DR.dst=some it) (h3:DR.guard=none) (dQ:it<nt) (ht:P.underlying t=some (.map k e)) (Q0:cO P tm=some tm') (hA:allM (kH P (Js++[DR]).toArray nt sA false false #[] []) Js 0=some vA):
  CS P nt (.seq (.region ia (Js++[DR]).toArray false) (.block b (.loop (JE ix ie b b1 ok DO GG DN rQ nB))))
   (fun Q=>wpOps (Sound P) false vA (GR m tm' site it nx ok en (dI (Sound P) (.seq (.eI false vE) sf)) b b1 Q)):=fun hs Q env σ a w D ι Q' hv dE hQ=>by
 refine lL (km (wp_region_list ?_))
 show wpList P _ _ (Js++[DR]) a w
 refine wz [DR] Js vA 0 env σ a w D ι (fun _=>False) hA hv dE.ta dE.used (fun _ h=>h.elim) dE.env dE.size fun jh σ1 a1 w1 D1 ι1 hk T sr uD Gc=>?_
 obtain⟨id,r,hid,hg,hw,hr⟩:=hk
 have gJ:=dj sr.env Q0
 rw[hid]at gJ
 obtain⟨B,hv,hB,hk⟩:=Fs gJ
 obtain⟨B',dz,R,kh,mi⟩:=sr.ta.row id r hg
 rw[hB]at dz;injection dz with dz;subst dz
 obtain⟨hrsz,es,clock,hb,fj,⟨hlen,Gf⟩,hM⟩:=R.map m hk
 have RZ:=R.lt
 have fY:=run_range_map (P:=P) w1 t k e B.b es clock ht hb
 refine mJ (v:=.pointer (some ⟨w1.heap.size,0,none⟩)) (w':=w1.alloc (.mapIter (some B.b) clock #[] clock)) h3 (by simp[execOp,h1,hv,fY,Result.andThen]) ?_
 rw[h2]
 obtain⟨w2,pQ⟩:∃w2,w1.alloc (.mapIter (some B.b) clock #[] clock)=w2:=⟨_,rfl⟩
 have hblk:∀b,b<w1.heap.size->w2.heap[b]? =w1.heap[b]? :=fun b hb=>by rw[<-pQ];exact Below.heap_alloc _ _ _ hb
 have ki:w2.heap[w1.heap.size]? =some (.mapIter (some B.b) clock #[] clock):=by rw[<-pQ];exact heap_alloc_new _ _
 have hz:w2.heap.size=w1.heap.size+1:=by rw[<-pQ];simp
 have xz:w2.os=w1.os/\w2.tape=w1.tape/\w2.output=w1.output:=by rw[<-pQ];exact⟨rfl,rfl,rfl⟩
 rw[pQ]
 clear pQ fY
 let D2:Nat->Prop:=fun x=>D1 x∨x=B.b∨x=w1.heap.size
 let ι2:Names:=kD ι1 ⟨site,σ1.next⟩ ⟨w1.heap.size,1,0,none⟩
 have jB:ι1 ⟨site,σ1.next⟩=none:=fresh sr.used (fun h=>h)
 have SD:∀{a v},cH P w1 D1 ι1 a v->cH P w2 D2 ι2 a v:=fun h=>h.frame (fun b hd=>hblk b (sr.ta.dead b hd)) (fun _ h=>.inl h) (e6 jB)
 have yL:∀{j q C},σ1.get j=some q->ι2 j=some C->ι1 j=some C:=fun {j q C} hj hC=>by
  obtain⟨C',uh,_⟩:=sr.ta.row j q hj
  have:=e6 (B:=⟨w1.heap.size,1,0,none⟩) jB j C' uh
  have e:=this.symm.trans hC
  injection e with e;rw[<-e];exact uh
 have lt:∀{j q C},σ1.get j=some q->ι1 j=some C->C.b<w1.heap.size:=fun {j q C} hj hC=>by
  obtain⟨C',uh,R',_⟩:=sr.ta.row j q hj
  rw[hC]at uh;injection uh with uh;subst uh
  exact R'.lt
 have NC:∀{j q},bz σ1.get id {r with w:=false} j=some q->∃q0,σ1.get j=some q0/\(q.w=true->q=q0/\j≠id)/\(j=id->q={r with w:=false}/\q0=r)/\(j≠id->q=q0):=fun {j q} h=>by
  unfold bz at h
  split at h
  ·rename_i e
   injection h with h;subst h
   exact⟨r,e▸hg,fun h=>(by cases h),fun _=>⟨rfl,rfl⟩,fun hc=>absurd e hc⟩
  ·rename_i e
   exact⟨q,h,fun _=>⟨rfl,e⟩,fun hc=>absurd hc e,fun _=>rfl⟩
 have S2:gr P hs D2 ι2 (bz σ1.get id {r with w:=false}) w2:=by
  refine⟨by rw[hz];exact Nat.le_succ_of_le sr.ta.lo,fun b hb=>?_,fun j q h=>?_,fun j j' q q' C C' h h' II hC uh he=>?_⟩
  ·rw[hz]
   rcases hb with hb|rfl|rfl
   ·exact Nat.lt_succ_of_lt (sr.ta.dead b hb)
   ·exact Nat.lt_succ_of_lt RZ
   ·exact Nat.lt_succ_self _
  ·obtain⟨q0,MH,II,zD,gW⟩:=NC h
   obtain⟨C,hC,RC,k1,k2⟩:=sr.ta.row j q0 MH
   have hCl:=lt MH hC
   refine⟨C,e6 jB j C hC,?_,fun PM=>k1 ((II PM).1▸PM),fun PM hD=>?_⟩
   ·have RF:gL P w2 D2 ι2 C q0:=RC.frame (hblk _ hCl) fun a v h=>SD h
    by_cases hj:j=id
    ·obtain⟨e1,e2⟩:=zD hj
     rw[e1,<-e2];exact RF.flag false
    ·rw[gW hj];exact RF
   ·obtain⟨e1,e2⟩:=II PM
    rcases hD with hD|hD|hD
    ·exact k2 (e1▸PM) hD
    ·exact e2 (sr.ta.inj j id q0 r C B MH hg (e1▸PM) hC hB hD)
    ·omega
  ·obtain⟨q0,MH,UB,_⟩:=NC h
   obtain⟨q0',QU,_⟩:=NC h'
   exact sr.ta.inj j j' q0 q0' C C' MH QU ((UB II).1▸II) (yL MH hC) (yL QU uh) he
 have T2:Step hs D1 ι1 w1 D2 ι2 w2:=⟨⟨xz.1,xz.2.1,xz.2.2,by omega,fun k hk=>hblk k (Nat.lt_of_lt_of_le hk sr.ta.lo)⟩,fun b hb=>hblk b (sr.ta.dead b hb),fun _ h=>.inl h,e6 jB,fun b hb=>by
  rcases hb with hb|rfl|rfl
  ·exact .inl hb
  ·exact .inr (kh hw)
  ·exact .inr sr.ta.lo⟩
 have E2:cm P w2 D2 ι2 (upd jh (some it) (.ptr ⟨site,σ1.next⟩ 0 0)) (a1.put (some it) (.pointer (some ⟨w1.heap.size,0,none⟩))):=
  iv (fun t=>SD (sr.env t)) (by have:=cH.ptr (P:=P) (w:=w2) (D:=D2) (ι:=ι2) ⟨site,σ1.next⟩ 0 0 ⟨w1.heap.size,1,0,none⟩ (dW _ _ _) rfl;simpa using this) (fun d h=>by cases h;exact dQ) sr.size
 have L2:Mn P w2 D2 ι2 m (leftOf es #[]).toList r.rows:=by
  have he:(leftOf es #[]).toList=es.toList:=by simp[leftOf]
  rw[he]
  refine⟨by simpa using fj.symm,fun i cs hi=>?_⟩
  obtain⟨Qd,kv,vv,q1,q2,q3,q4,q5⟩:=hM i cs hi
  exact⟨Qd,kv,vv,by simpa using q1,q2,q3,SD q4,SD q5⟩
 show Ax P (.block b (.loop (JE ix ie b b1 ok DO GG DN rQ nB))) Q' _ w2
 exact s4 (B8 (r.rows.length+1) (DX hm O Gf (ds:=a.defers) (n0:=σ.next) (D0:=D) (ι0:=ι) (w0:=w) hQ
  (fun hc=>by have:=dE.ta.dead _ hc;have:=T.below.size;omega) sr.ta.lo (by omega) r.rows.length r.rows _ ⟨bz σ1.get id {r with w:=false},σ1.next+1⟩ _ w2 D2 ι2 #[] hr
  ⟨S2,sr.used.upd.next,E2,by rw[eV];exact sr.size⟩ (by rw[put_defers];exact uD) (Nat.le_succ_of_le Gc) (T.trans T2) ⟨1,0,dW _ _ _⟩ (.inr (.inr rfl)) (.inr (.inl rfl)) ki ((hblk _ RZ).trans hb) rfl L2))
theorem CS.fn {f:Nat} {fn:Func} {c:Code} {args:List AV} {σ:ar} {K:AV->ar->Prop} {vr:List nH} {W:(Ex->Env->ar->Prop)->Env->ar->Prop} (Py:P.funcs[f]? =some fn) (hc:fn.body=some c) (hr:fn.results.toList.mapM (C0 P)=some vr) (ha:fn.params.size+fn.nfree=args.length) (hle:fn.params.size+fn.nfree<=fn.ntmps)
  (h:CS P fn.ntmps c W) (hv:W (kz vr K) (cD args) σ):Call P f args σ K:=
 gM (u7 Py hc hr ha hle fun hs w D ι a Q' dE hQ=>h hs (kz vr K) (cD args) σ a w D ι Q' hv dE hQ)
theorem sg (hm:P.follows .mixedOrders=true) {c:VC} {Q Q':Ex->Env->ar->Prop} {env:Env} {σ:ar} (hQ:∀x e s,Q x e s->Q' x e s) (h:dI (Call P) c Q env σ):dI (Sound P) c Q' env σ:=
 jz (fun _ _ _ _ h=>gn hm h) kG c Q Q' env σ hQ h
theorem yU {m:MK} {it nx ok en:Nat} {id:Id} {B B':(Ex->Env->ar->Prop)->Env->ar->Prop} {b b1:Nat} {Q Q':Ex->Env->ar->Prop} (hB:∀R R' e s,(∀x e s,R x e s->R' x e s)->B R e s->B' R' e s) (hQ:∀x e s,Q x e s->Q' x e s):
  ∀(n:Nat) (left:List (List AV)) (env:Env) (σ:ar),Cg m it nx ok en id B b b1 Q n left env σ->Cg m it nx ok en id B' b b1 Q' n left env σ
 |0,_,env,σ,h=>⟨h.1,hQ _ _ _ h.2⟩
 |n+1,left,env,σ,h=>⟨h.1,fun i cs kv vv h1 h2 h3=>hB _ _ _ _ (fun x e s hx=>by
  have hn:=yU (id:=id) (m:=m) (it:=it) (nx:=nx) (ok:=ok) (en:=en) (b:=b) (b1:=b1) hB hQ n (left.eraseIdx i) e s
  cases x with
  |normal=>exact hn hx
  |ret=>exact hQ _ _ _ hx
  |exit jW=>
   simp only[bc]at hx ⊢
   split at hx
   ·rename_i h1;rw[if_pos h1];exact hn hx
   ·rename_i h1
    rw[if_neg h1]
    simp only[dn,bc]at hx ⊢
    split at hx
    ·rename_i h2;rw[if_pos h2];exact hQ _ _ _ hx
    ·rename_i h2;rw[if_neg h2];exact hQ _ _ _ hx) (h.2 i cs kv vv h1 h2 h3)⟩
theorem GU (hm:P.follows .mixedOrders=true) {m:MK} {tm:O} {site it nx ok en:Nat} {c:VC} {b b1:Nat} {Q Q':Ex->Env->ar->Prop} {env:Env} {σ:ar} (hQ:∀x e s,Q x e s->Q' x e s) (h:GR m tm site it nx ok en (dI (Call P) c) b b1 Q env σ):GR m tm site it nx ok en (dI (Sound P) c) b b1 Q' env σ:=by
 obtain⟨id,r,h1,h2,h3,h4⟩:=h
 exact⟨id,r,h1,h2,h3,yU (B':=dI (Sound P) c) (fun R R' e s hR hb=>sg hm hR hb) hQ _ _ _ _ h4⟩
theorem wD {α:Type}:∀{l:List α} {i:Nat} {x:α},l[i]? =some x->(x::l.eraseIdx i).Perm l
 |y::l,0,x,h=>by simp at h;subst h;exact List.Perm.refl _
 |y::l,i+1,x,h=>by
  simp only[List.getElem?_cons_succ]at h
  rw[List.eraseIdx_cons_succ]
  exact(List.Perm.swap _ _ _).trans ((wD h).cons _)
theorem RA {m:MK} {tm:O} {site it nx ok en:Nat} {c:VC} {b b1:Nat} {Q:Ex->Env->ar->Prop} {env:Env} {σ:ar} {id:Id} {r:Row} (I:List (List AV)->Env->ar->Prop) (h1:cN env tm=.map id m) (h2:σ.get id=some r) (h3:r.w=true) (K8:([nx,ok,en]++xR c).contains it=false)
  (h0:I [] (upd env (some it) (.ptr ⟨site,σ.next⟩ 0 0)) ⟨bz σ.get id {r with w:=false},σ.next+1⟩)
  (step:∀pre cs rest e s kv vv,(pre++cs::rest).Perm r.rows->I pre e s->gz ([nx,ok,en]++xR c) (upd env (some it) (.ptr ⟨site,σ.next⟩ 0 0)) e->part m.ka m.ks cs=some kv->cs[m.ks]? =some vv->
   dI (Call P) c (bc b1 (dn (I (pre++[cs])) (bc b Q))) (upd (upd (upd e (some nx) (.gK [.bool true,kv,vv])) (some ok) (.bool true)) (some en) (.gK [kv,vv])) ⟨s.get,s.next+1⟩)
  (fin:∀pre e s,pre.Perm r.rows->I pre e s->gz ([nx,ok,en]++xR c) (upd env (some it) (.ptr ⟨site,σ.next⟩ 0 0)) e->Q .normal (upd (upd e (some nx) (.gK [.bool false])) (some ok) (.bool false)) ⟨s.get,s.next+1⟩):
  GR m tm site it nx ok en (dI (Call P) c) b b1 Q env σ:=by
 refine⟨id,r,h1,h2,h3,?_⟩
 have QA:∀e,gz ([nx,ok,en]++xR c) (upd env (some it) (.ptr ⟨site,σ.next⟩ 0 0)) e->e it=.ptr ⟨site,σ.next⟩ 0 0:=fun e h=>by
  rw[h it K8];simp[upd]
 have key:∀n left pre e s,(pre++left).Perm r.rows->left.length=n->I pre e s->gz ([nx,ok,en]++xR c) (upd env (some it) (.ptr ⟨site,σ.next⟩ 0 0)) e->Cg m it nx ok en ⟨site,σ.next⟩ (dI (Call P) c) b b1 Q n left e s:=by
  intro n
  induction n with
  |zero=>
   intro left pre e s hp hl hI hK
   have:left=[]:=List.eq_nil_of_length_eq_zero hl
   subst this
   rw[List.append_nil]at hp
   exact⟨QA e hK,fin pre e s hp hI hK⟩
  |succ n ih=>
   intro left pre e s hp hl hI hK
   refine⟨QA e hK,fun i cs kv vv hi hk hv=>?_⟩
   have lD:=(List.getElem?_eq_some_iff.1 hi).1
   have E5:(cs::left.eraseIdx i).Perm left:=by
    exact wD hi
   have IE:(pre++cs::left.eraseIdx i).Perm r.rows:=(E5.append_left pre).trans hp
   have NQ:gz ([nx,ok,en]++xR c) (upd env (some it) (.ptr ⟨site,σ.next⟩ 0 0)) (upd (upd (upd e (some nx) (.gK [.bool true,kv,vv])) (some ok) (.bool true)) (some en) (.gK [kv,vv])):=
    ((hK.upd (fun t h=>by cases h;simp)).upd (fun t h=>by cases h;simp)).upd (fun t h=>by cases h;simp)
   refine jz (fun _ _ _ _ h=>h) aJ c _ _ _ _ (fun x e' s' hx=>?_) (y5 c _ _ _ (fun t ht=>List.mem_append_right _ ht) NQ (step pre cs (left.eraseIdx i) e s kv vv IE hI hK hk hv))
   obtain⟨hx,Gb⟩:=hx
   have tQ:I (pre++[cs]) e' s'->Cg m it nx ok en ⟨site,σ.next⟩ (dI (Call P) c) b b1 Q n (left.eraseIdx i) e' s':=fun Ty=>
    ih (left.eraseIdx i) (pre++[cs]) e' s' (by rw[List.append_assoc];exact IE) (by rw[List.length_eraseIdx,if_pos lD];omega) Ty Gb
   cases x with
   |normal=>exact tQ hx
   |ret=>exact hx
   |exit jW=>
    simp only[bc]at hx ⊢
    split at hx
    ·rename_i h1;rw[if_pos h1];exact tQ hx
    ·rename_i h1;rw[if_neg h1];exact hx
 exact key _ r.rows [] _ _ (List.Perm.refl _) rfl h0 (gz.refl _ _)
end Go.Proofs.YtgoelphibofcmaaGreat.V

namespace Go.Proofs.YtgoelphibofcmaaGreat.V
open Go.RowKit
def M4:Code->Code
 | .seq a _=>a
 |c=>c
def Ht:Code->Code
 | .seq _ b=>b
 |c=>c
def SX:Code->Code
 | .block _ c=>c
 |c=>c
def UW:Code->Code
 | .loop c=>c
 |c=>c
def RS:Code->List Oper
 | .region _ o _=>o.toList
 |_=>[]
def rg2 (k:Code):Code:=M4 (M4 (Ht (Ht k)))
def UR (k:Code):Code:=Ht (M4 (Ht (Ht k)))
def rgL (k:Code):Code:=UW (SX (UR k))
def OL (k:Code):Code:=Ht (Ht (rgL k))
def Po:Oper:={dst:=none,op:=.nilCheck (.tmp 0),type:=0,pos:= "",after:= #[],guard:=none}
def rgP (k:Code):List Oper:=(RS (rg2 k)).dropLast
def rgO (k:Code):Oper:=(RS (rg2 k)).getLastD Po
def SP (k:Code) (i:Nat):Oper:=(RS (M4 (rgL k))).getD i Po
def Ru (k:Code):Oper:=(RS (M4 (SX (OL k)))).headD Po
def Rv (k:Code):List Oper:=(RS (M4 (SX (OL k)))).tail
def rgR (k:Code):Code:=Ht (SX (OL k))
def Rw (P:Program) (v0 v1:VC) (vA:List bd) (m:MK) (tm:O) (site it nx ok en:Nat) (vE:List bd) (vR:VC) (b b1:Nat) (vT:VC) (Q:Ex->Env->ar->Prop):Env->ar->Prop:=
 dI (Sound P) v0 (dn (dI (Sound P) v1 (dn (wpOps (Sound P) false vA (GR m tm site it nx ok en (dI (Sound P) (.seq (.eI false vE) vR)) b b1 (dn (dI (Sound P) vT Q) Q))) Q)) Q)
def OM (P:Program) (v0 v1:VC) (vA:List bd) (m:MK) (tm:O) (site it nx ok en:Nat) (vE:List bd) (vR:VC) (b b1:Nat) (vT:VC) (Q:Ex->Env->ar->Prop):Env->ar->Prop:=
 dI (Call P) v0 (dn (dI (Call P) v1 (dn (wpOps (Call P) false vA (GR m tm site it nx ok en (dI (Call P) (.seq (.eI false vE) vR)) b b1 (dn (dI (Call P) vT Q) Q))) Q)) Q)
theorem wQ {F F':Env->ar->Prop} {Q:Ex->Env->ar->Prop} (h:∀e s,F e s->F' e s):∀x e s,dn F Q x e s->dn F' Q x e s:=fun x e s hx=>by
 cases x with
 |normal=>exact h e s hx
 |ret=>exact hx
 |exit id=>exact hx
theorem JF {P:Program} (hm:P.follows .mixedOrders=true) {v0 v1:VC} {vA:List bd} {m:MK} {tm:O} {site it nx ok en:Nat} {vE:List bd} {vR:VC} {b b1:Nat} {vT:VC} {Q:Ex->Env->ar->Prop} {env:Env} {σ:ar}
  (h:OM P v0 v1 vA m tm site it nx ok en vE vR b b1 vT Q env σ):Rw P v0 v1 vA m tm site it nx ok en vE vR b b1 vT Q env σ:=
 sg hm (wQ fun _ _ h=>sg hm (wQ fun _ _ h=>k8 (fun _ _ _ _ h=>gn hm h) kG (fun _ _ h=>GU hm (wQ fun _ _ h=>sg hm (fun _ _ _ h=>h) h) h) _ _ _ h) h) h
end Go.Proofs.YtgoelphibofcmaaGreat.V

namespace Go.Proofs.YtgoelphibofcmaaGreat.V
open Go.RowKit
noncomputable def oL:Go.Code:=Tryz.f135.body.getD .skip
def Es:VC:=(.eI false [⟨(some 2),(.new [.cq]),none,135000000,[]⟩])
def J8:VC:=(.eI false [⟨(some 3),(.dm (.k .cq)),none,135001000,[]⟩])
def J9:List bd:=[⟨(some 6),(.dm (.t 0)),none,135002000,[]⟩,⟨(some 7),(.Az (.t 6)),none,135002001,[]⟩,⟨(some 8),(.fR 4 (.t 7)),none,135002002,[]⟩,⟨(some 9),(.load false 1 (.t 8)),none,135002003,[]⟩]
def Am:List bd:=[⟨(some 14),(.extract 0 (.t 13)),none,135004001,[]⟩,⟨(some 15),(.extract 1 (.t 13)),none,135004002,[]⟩,⟨(some 4),(.new [(.int .i64 0),(.int .i64 0)]),none,135004003,[]⟩,⟨none,(.store 2 (.t 4) (.t 14)),none,135004004,[]⟩,⟨(some 5),(.dm (.t 15)),none,135004005,[]⟩]
def An:VC:=(.eI false [⟨(some 16),(.dm (.t 3)),none,135005000,[]⟩,⟨(some 17),(.load true 2 (.t 4)),none,135005001,[]⟩,⟨(some 18),(.dm (.t 5)),none,135005002,[]⟩,⟨(some 19),(.build [(.int .i64 0),(.int .i64 0),(.int .i64 0)] [(0,(2,(.t 17))),(2,(1,(.t 18)))]),none,135005003,[]⟩,⟨(some 20),(.lR 3 1 [(.t 19)]),none,135005004,[]⟩,⟨(some 21),(.append 3 (.t 16) (.t 20)),none,135005005,[]⟩,⟨(some 3),(.dm (.t 21)),none,135005006,[]⟩])
def Ao:VC:=(.seq (.eI false [⟨(some 22),(.dm (.t 3)),none,135006000,[]⟩,⟨(some 23),(.call 180 [(.t 22)]),none,135006001,[]⟩,⟨none,(.store 1 (.t 2) (.t 23)),none,135006002,[]⟩]) .ret)
def Aq:List nH:=[(.cell true 1 2)]
def Ek:O:=(.t 9)
theorem OE:HD Tryz.prog [] Tryz.f135.ntmps 135 135004000 10 11 12 13 (SP oL 0) (SP oL 1) (Ru oL) (Rv oL) (rgR oL) Am An:=⟨by kernel_rfl,by kernel_rfl,by kernel_rfl,by kernel_rfl,by kernel_rfl,by kernel_rfl,by kernel_rfl,by kernel_rfl,by kernel_rfl,by decide,by decide,by decide,by decide,by decide,by kernel_rfl,by kernel_rfl⟩
theorem OO:oL=.seq (M4 oL) (.seq (M4 (Ht oL)) (.seq (.seq (.region 2 (rgP oL++[rgO oL]).toArray false) (.block 0 (.loop (JE 3 4 0 1 12 (SP oL 0) (SP oL 1) (Ru oL) (Rv oL) (rgR oL))))) (Ht (Ht (Ht oL))))):=by kernel_rfl
theorem Ns (m:MK):CS Tryz.prog Tryz.f135.ntmps oL (Rw Tryz.prog Es J8 J9 m Ek 135002999 10 11 12 13 Am An 0 1 Ao):=by
 rw[OO]
 exact CS.seq (CS.code (md:=[]) (fid:=135) mixed (by kernel_rfl)) (CS.seq (CS.code (md:=[]) (fid:=135) mixed (by kernel_rfl)) (CS.seq (CS.rng (tm:=.tmp 9) (sA:=135002000) (t:=107) (k:=50) (e:=2) mixed OE (by kernel_rfl) (by kernel_rfl) (by kernel_rfl) (by decide) (by kernel_rfl) (by kernel_rfl) (by kernel_rfl)) (CS.code (md:=[]) (fid:=135) mixed (by kernel_rfl))))
theorem OK {args:List AV} {σ:ar} {K:AV->ar->Prop} (ha:args.length=Tryz.f135.params.size) (m:MK) (h:OM Tryz.prog Es J8 J9 m Ek 135002999 10 11 12 13 Am An 0 1 Ao (kz Aq K) (cD args) σ):Call Tryz.prog 135 args σ K:=
 CS.fn Tryz.func135 (by kernel_rfl) (by kernel_rfl) ha.symm (by decide) (Ns m) (JF mixed h)
end Go.Proofs.YtgoelphibofcmaaGreat.V

namespace Go.Proofs.YtgoelphibofcmaaGreat.V
open Go.RowKit
attribute [local irreducible] dI wpOps gD Call
attribute [local go_sem] aM fM eP gp gm cN upd cD K.av cR AV.cells AV.cell rowOf rowsOf part ld rowAt bz cu dG ef ik bQ dh eA gj e9 dq ek dd dc dU dV bW bf cW bV cY cX ei eo ej cV ck de eh bU aT da cG ij bx cQ b4 aY dn bc dH AV.undef bF bI eb ee dP dM cJ ez eE cF er ep cZ db List.getD_cons_zero List.getD_cons_succ List.getD_nil List.all_cons List.all_nil Bool.and_true Bool.true_and Bool.and_self Bool.not_true Bool.not_false Option.map_some Option.map_none Option.bind_some Option.bind_none List.length_cons List.length_nil List.take_succ_cons List.take_zero List.take_nil List.drop_succ_cons List.drop_zero List.drop_nil List.head?_cons List.map_cons List.map_nil List.getElem?_cons_zero List.getElem?_cons_succ List.cons_append List.nil_append List.append_nil List.length_map List.set_cons_zero List.set_cons_succ Nat.reduceMul eq_self Int.toNat_natCast Int.natCast_nonneg and_self true_and and_true decide_true decide_false Bool.false_eq_true Nat.zero_add Nat.add_zero List.contains_cons List.contains_nil Bool.or_false Bool.false_or beq_self_eq_true Nat.reduceBEq ne_eq not_true_eq_false not_false_eq_true Id.mk.injEq false_and and_false Nat.reduceLT Int.reduceLE Int.reduceLT Int.reduceToNat Int.reduceNeg Int.reduceAdd Nat.le_refl List.length_append beq_true beq_false Bool.not_eq_eq_eq_not or_false false_or dO ai aj aH bp bE cz aX bl aW bj cU bH
end Go.Proofs.YtgoelphibofcmaaGreat.V

namespace Go.Proofs.YtgoelphibofcmaaGreat.V
open Go.RowKit
attribute [local irreducible] dI wpOps gD Call
attribute [local go_sem] aM fM eP gp gm cN upd cD K.av cR AV.cells AV.cell rowOf rowsOf part ld rowAt bz cu dG ef ik bQ dh eA gj e9 dq ek dd dc dU dV bW bf cW bV cY cX ei eo ej cV ck de eh bU aT da cG ij bx cQ b4 aY dn bc dH AV.undef bF bI eb ee dP dM cJ ez eE cF er ep cZ db List.getD_cons_zero List.getD_cons_succ List.getD_nil List.all_cons List.all_nil Bool.and_true Bool.true_and Bool.and_self Bool.not_true Bool.not_false Option.map_some Option.map_none Option.bind_some Option.bind_none List.length_cons List.length_nil List.take_succ_cons List.take_zero List.take_nil List.drop_succ_cons List.drop_zero List.drop_nil List.head?_cons List.map_cons List.map_nil List.getElem?_cons_zero List.getElem?_cons_succ List.cons_append List.nil_append List.append_nil List.length_map List.set_cons_zero List.set_cons_succ Nat.reduceMul eq_self Int.toNat_natCast Int.natCast_nonneg and_self true_and and_true decide_true decide_false Bool.false_eq_true Nat.zero_add Nat.add_zero List.contains_cons List.contains_nil Bool.or_false Bool.false_or beq_self_eq_true Nat.reduceBEq ne_eq not_true_eq_false not_false_eq_true Id.mk.injEq false_and and_false Nat.reduceLT Int.reduceLE Int.reduceLT Int.reduceToNat Int.reduceNeg Int.reduceAdd Nat.le_refl List.length_append beq_true beq_false Bool.not_eq_eq_eq_not or_false false_or dO ai aj aH bp bE cz aX bl aW bj cU bH
end Go.Proofs.YtgoelphibofcmaaGreat.V

namespace Go.Proofs.YtgoelphibofcmaaGreat.V
open Go.RowKit
attribute [local irreducible] dI wpOps gD Call
attribute [local go_sem] aM fM eP gp gm cN upd cD K.av cR AV.cells AV.cell rowOf rowsOf part ld rowAt bz cu dG ef ik bQ dh eA gj e9 dq ek dd dc dU dV bW bf cW bV cY cX ei eo ej cV ck de eh bU aT da cG ij bx cQ b4 aY dn bc dH AV.undef bF bI eb ee dP dM cJ ez eE cF er ep cZ db List.getD_cons_zero List.getD_cons_succ List.getD_nil List.all_cons List.all_nil Bool.and_true Bool.true_and Bool.and_self Bool.not_true Bool.not_false Option.map_some Option.map_none Option.bind_some Option.bind_none List.length_cons List.length_nil List.take_succ_cons List.take_zero List.take_nil List.drop_succ_cons List.drop_zero List.drop_nil List.head?_cons List.map_cons List.map_nil List.getElem?_cons_zero List.getElem?_cons_succ List.cons_append List.nil_append List.append_nil List.length_map List.set_cons_zero List.set_cons_succ Nat.reduceMul eq_self Int.toNat_natCast Int.natCast_nonneg and_self true_and and_true decide_true decide_false Bool.false_eq_true Nat.zero_add Nat.add_zero List.contains_cons List.contains_nil Bool.or_false Bool.false_or beq_self_eq_true Nat.reduceBEq ne_eq not_true_eq_false not_false_eq_true Id.mk.injEq false_and and_false Nat.reduceLT Int.reduceLE Int.reduceLT Int.reduceToNat Int.reduceNeg Int.reduceAdd Nat.le_refl List.length_append beq_true beq_false Bool.not_eq_eq_eq_not or_false false_or dO ai aj aH bp bE cz aX bl aW bj cU bH
end Go.Proofs.YtgoelphibofcmaaGreat.V

namespace Go.Proofs.YtgoelphibofcmaaGreat.V
open Go.RowKit
attribute [local irreducible] dI wpOps gD Call
attribute [local go_sem] aM fM eP gp gm cN upd cD K.av cR AV.cells AV.cell rowOf rowsOf part ld rowAt bz cu dG ef ik bQ dh eA gj e9 dq ek dd dc dU dV bW bf cW bV cY cX ei eo ej cV ck de eh bU aT da cG ij bx cQ b4 aY dn bc dH AV.undef bF bI eb ee dP dM cJ ez eE cF er ep cZ db List.getD_cons_zero List.getD_cons_succ List.getD_nil List.all_cons List.all_nil Bool.and_true Bool.true_and Bool.and_self Bool.not_true Bool.not_false Option.map_some Option.map_none Option.bind_some Option.bind_none List.length_cons List.length_nil List.take_succ_cons List.take_zero List.take_nil List.drop_succ_cons List.drop_zero List.drop_nil List.head?_cons List.map_cons List.map_nil List.getElem?_cons_zero List.getElem?_cons_succ List.cons_append List.nil_append List.append_nil List.length_map List.set_cons_zero List.set_cons_succ Nat.reduceMul eq_self Int.toNat_natCast Int.natCast_nonneg and_self true_and and_true decide_true decide_false Bool.false_eq_true Nat.zero_add Nat.add_zero List.contains_cons List.contains_nil Bool.or_false Bool.false_or beq_self_eq_true Nat.reduceBEq ne_eq not_true_eq_false not_false_eq_true Id.mk.injEq false_and and_false Nat.reduceLT Int.reduceLE Int.reduceLT Int.reduceToNat Int.reduceNeg Int.reduceAdd Nat.le_refl List.length_append beq_true beq_false Bool.not_eq_eq_eq_not or_false false_or dO ai aj aH bp bE cz aX bl aW bj cU bH
theorem yT:∀{ps qs:List ad},(ps.Pairwise fun a b=>jK a.aO b.aO=true)->(qs.Pairwise fun a b=>jK a.aO b.aO=true)->(∀x,x∈ps↔x∈qs)->ps=qs
 |[],[],_,_,_=>rfl
 |[],q::qs,_,_,h=>absurd ((h q).2 (by simp)) (by simp)
 |p::ps,[],_,_,h=>absurd ((h p).1 (by simp)) (by simp)
 |p::ps,q::qs,hp,hq,h=>by
  obtain⟨p1,p2⟩:=List.pairwise_cons.1 hp
  obtain⟨q1,q2⟩:=List.pairwise_cons.1 hq
  have e:p=q:=by
   rcases List.mem_cons.1 ((h p).1 (by simp))with e|e
   ·exact e
   ·rcases List.mem_cons.1 ((h q).2 (by simp))with e'|e'
    ·exact e'.symm
    ·have:=Jb (q1 p e)
     rw[p1 q e']at this;cases this
  subst e
  congr 1
  refine yT p2 q2 fun x=>⟨fun hx=>?_,fun hx=>?_⟩
  ·rcases List.mem_cons.1 ((h x).1 (List.mem_cons_of_mem _ hx))with e|e
   ·subst e;have:=p1 x hx;rw[mW]at this;cases this
   ·exact e
  ·rcases List.mem_cons.1 ((h x).2 (List.mem_cons_of_mem _ hx))with e|e
   ·subst e;have:=q1 x hx;rw[mW]at this;cases this
   ·exact e
theorem Eb {L qs:List ad} (hR:nG L) (hp:qs.Perm L) (hs:∀i j:Nat,i<j->j<qs.length->jK (aI qs j).aO (aI qs i).aO=false):qs=L:=by
 rw[rS]at hR
 have hd:L.Pairwise fun a b=>a.aO≠b.aO:=hR.imp fun {a b} h e=>by rw[e,mW]at h;cases h
 have hdq:qs.Pairwise fun a b=>a.aO≠b.aO:=hp.symm.pairwise hd fun {a b} h e=>h e.symm
 refine yT ?_ hR fun x=>hp.mem_iff
 rw[List.pairwise_iff_getElem]at hdq ⊢
 intro i j hi hj Dl
 have h1:=hs i j Dl hj
 rw[fb hj,fb hi]at h1
 exact Fk h1 fun e=>hdq i j hi hj Dl e.symm
theorem C1 (ps:List ad) (h0:ps≠[]) (hlen:ps.length<=1048576) (σ:ar) (id:Id) (hv:id.bP<σ.next) (hg:σ.get id=some ⟨true,3,ps.map aa⟩):
  Call Tryz.prog 145 [.own id 0 ps.length] σ fun a σ'=>∃o:Id,a=.own o 0 ps.length/\σ'.get o=some ⟨true,3,ps.map aa⟩/\σ.next<=o.bP/\o.bP<σ'.next/\∀x:Id,x.bP<σ.next->σ'.get x=σ.get x:=by
 refine eT eB rfl fun hl=>?_
 clear hl
 have h2:ps.length<=16777216:=by omega
 have hm:(ps.map aa).length=ps.length:=by simp
 have v1:=dw hv
 have ht:(ps.map aa).take ps.length=ps.map aa:=by rw[<-hm,List.take_length]
 have ha:(ps.map aa).all (fun c=>c.length==3&&c.all AV.cell)=true:=all_map fun x=>by simp[aa,AV.cell]
 (try((repeat(revert hN;revert N;apply Pn.out));refine wk (tw @hg (tw @h2 (tw @hm (tw @v1 (tw @ht @ha))))) ?_;(repeat(refine Pn.mk ?_;intro N hN))))
 exact fw (vs:=[.own ⟨145003002,σ.next+2⟩ 0 ps.length]) (.inl rfl) (sd @Nat.zero_add) ⟨_,rfl,sd @Nat.zero_add,by(try dsimp only);omega,by(try dsimp only);omega,fun x hx=>by
  have:=dw hx
  simp only[go_sem, ↓reduceIte,Nat.reduceEqDiff,Nat.reduceAdd,Nat.reduceSub,Nat.reduceLeDiff,reduceCtorEq,this]⟩
theorem ze (ps L:List ad) (hlen:ps.length<=1000000) (h0:ps≠[]) (hR:nG L) (hp:ps.Perm L) (σ:ar) (id:Id) (hv:id.bP<σ.next) (hg:σ.get id=some ⟨true,3,ps.map aa⟩):
  Call Tryz.prog 180 [.own id 0 ps.length] σ fun a σ'=>∃o:Id,a=.agg [.own o 0 L.length]/\σ'.get o=some ⟨true,3,L.map aa⟩/\σ.next<=o.bP/\o.bP<σ'.next/\∀x:Id,x.bP<σ.next->σ'.get x=σ.get x:=by
 refine eT eB rfl fun hl=>?_
 clear hl
 have v1:=dw hv
 (try((repeat(revert hN;revert N;apply Pn.out));refine wk (tw @hg @v1) ?_;(repeat(refine Pn.mk ?_;intro N hN))))
 refine .inr (aJ _ _ _ _ _ (fun r σ1 hq=>?_) (C1 ps h0 (by omega) ⟨_,_⟩ id (by(try dsimp only);omega) (sd (tw @v1 @hg))))
 obtain⟨g1,x1⟩:=σ1
 obtain⟨o,rfl,q1,q2,q3,q4⟩:=hq
 (try dsimp only at q1 q2 q3 q4)
 have k2:=q4 ⟨180000000,σ.next⟩ (by(try dsimp only);omega)
 simp only[go_sem, ↓reduceIte,Nat.reduceEqDiff,Nat.reduceAdd,Nat.reduceSub,Nat.reduceLeDiff,reduceCtorEq]at k2
 refine hN _ _ ?_
 clear hN N
 (try((repeat(revert hN;revert N;apply Pn.out));refine wk @Nat.zero_add ?_;(repeat(refine Pn.mk ?_;intro N hN))))
 refine .inr (aJ _ _ _ _ _ (fun r σ2 hq=>?_) (GX OR OS ps (by omega) ⟨g1,_⟩ o q1))
 obtain⟨g2,x2⟩:=σ2
 obtain⟨u1,u2,ss,u3,u4,u5,u6⟩:=hq
 (try dsimp only at u1 u2 u3)
 have hss:ss=L:=Eb hR (u5.trans hp) u6
 rw[hss]at u3 u4
 have o2:(⟨180000000,σ.next⟩:Id)≠o:=fun e=>by rw[<-e]at q2;(try dsimp only at q2);omega
 have k3:=(u2 _ o2).trans k2
 have of:=eq_false (fun e:o=(⟨180000000,σ.next⟩:Id)=>o2 e.symm)
 refine hN _ _ ?_
 clear hN N
 (try((repeat(revert hN;revert N;apply Pn.out));refine wk @k3 ?_;(repeat(refine Pn.mk ?_;intro N hN))))
 exact fw (.inl rfl) (vs:=[.agg [.own o 0 ps.length]]) (sd @Nat.zero_add) ⟨o,by rw[u4];rfl,sd (tw @of @u3),by omega,by(try dsimp only);omega,fun x hx=>by
  have h1:x≠o:=fun e=>by rw[e]at hx;omega
  have h2:=u2 x h1
  have h3:=q4 x (by(try dsimp only);omega)
  have h4:=dw hx
  simp only[go_sem, ↓reduceIte,Nat.reduceEqDiff,Nat.reduceAdd,Nat.reduceSub,Nat.reduceLeDiff,reduceCtorEq,h4]at h3
  simp only[go_sem, ↓reduceIte,Nat.reduceEqDiff,Nat.reduceAdd,Nat.reduceSub,Nat.reduceLeDiff,reduceCtorEq,h4,h2,h3]⟩
end Go.Proofs.YtgoelphibofcmaaGreat.V

namespace Go.Proofs.YtgoelphibofcmaaGreat.V
open Go.RowKit
attribute [local irreducible] dI wpOps gD Call
attribute [local go_sem] aM fM eP gp gm cN upd cD K.av cR AV.cells AV.cell rowOf rowsOf part ld rowAt bz cu dG ef ik bQ dh eA gj e9 dq ek dd dc dU dV bW bf cW bV cY cX ei eo ej cV ck de eh bU aT da cG ij bx cQ b4 aY dn bc dH AV.undef bF bI eb ee dP dM cJ ez eE cF er ep cZ db List.getD_cons_zero List.getD_cons_succ List.getD_nil List.all_cons List.all_nil Bool.and_true Bool.true_and Bool.and_self Bool.not_true Bool.not_false Option.map_some Option.map_none Option.bind_some Option.bind_none List.length_cons List.length_nil List.take_succ_cons List.take_zero List.take_nil List.drop_succ_cons List.drop_zero List.drop_nil List.head?_cons List.map_cons List.map_nil List.getElem?_cons_zero List.getElem?_cons_succ List.cons_append List.nil_append List.append_nil List.length_map List.set_cons_zero List.set_cons_succ Nat.reduceMul eq_self Int.toNat_natCast Int.natCast_nonneg and_self true_and and_true decide_true decide_false Bool.false_eq_true Nat.zero_add Nat.add_zero List.contains_cons List.contains_nil Bool.or_false Bool.false_or beq_self_eq_true Nat.reduceBEq ne_eq not_true_eq_false not_false_eq_true Id.mk.injEq false_and and_false Nat.reduceLT Int.reduceLE Int.reduceLT Int.reduceToNat Int.reduceNeg Int.reduceAdd Nat.le_refl List.length_append beq_true beq_false Bool.not_eq_eq_eq_not or_false false_or dO ai aj aH bp bE cz aX bl aW bj cU bH
def AsI (σ:ar) (T:Id) (ts:List ad) (pre:List (List AV)) (e0:Env) (s0:ar):Prop:=
 ∃l':List ad,pre=l'.map aa/\((l'=[]/\e0 3=.cq)∨∃o:Id,e0 3=.own o 0 l'.length/\s0.get o=some ⟨true,3,l'.map aa⟩/\σ.next<o.bP/\o.bP<s0.next)/\σ.next<s0.next/\(∀x:Id,x.bP<σ.next->x≠T->s0.get x=σ.get x)/\s0.get T=some ⟨false,mP.pq,ts.map aa⟩/\s0.get ⟨135000000,σ.next⟩=some ⟨true,1,[[.cq]]⟩/\e0 2=.ptr ⟨135000000,σ.next⟩ 0 0
theorem Gw (L:List ad) (x:ad):(L++[x]).length=L.length+1:=by rw[List.length_append];rfl
theorem CT {σ:ar} {c T O:Id} {s:aA} {ts L:List ad} (h:lP σ.get σ.next c T O s ts) (hlen:ts.length<=100000) (h0:ts≠[]) (hR:nG L) (hp:ts.Perm L):
  Call Tryz.prog 135 [.ptr c 0 0] σ (fun r σ'=>∃o:Id,r=.agg [.own o 0 L.length]/\σ'.get o=some ⟨true,3,L.map aa⟩/\σ.next<=o.bP/\o.bP<σ'.next/\σ.next<=σ'.next/\∀x:Id,x.bP<σ.next->x≠T->σ'.get x=σ.get x):=by
 refine OK rfl mP ?_
 have fQ:=h.row
 have Om:=h.tl
 have v1:=dw h.cv
 have v2:=dw h.tv
 unfold OM
 rw[Es]
 (try((repeat(revert hN;revert N;apply Pn.out));refine wk (tw @fQ @v1) ?_;(repeat(refine Pn.mk ?_;intro N hN))))
 refine Cw (RA (id:=T) (r:=⟨true,mP.pq,ts.map aa⟩) (AsI σ T ts) (sd @Ek.eq_1) (sd (tw @Om @v2)) rfl (by decide) ?_ ?_ ?_)
 ·have vT:(T=(⟨135000000,σ.next⟩:Id))=False:=eq_false fun e=>by have:=h.tv;rw[e]at this;(try dsimp only at this);omega
  have vT2:((⟨135000000,σ.next⟩:Id)=T)=False:=eq_false fun e=>by have:=h.tv;rw[<-e]at this;(try dsimp only at this);omega
  exact⟨[],rfl,.inl ⟨rfl,sd @Nat.zero_add⟩,by(try dsimp only);omega,fun x hx hT=>by
   have h1:=dw hx
   have h2:=eq_false hT
   simp only[go_sem, ↓reduceIte,Nat.reduceEqDiff,Nat.reduceAdd,Nat.reduceSub,Nat.reduceLeDiff,reduceCtorEq,h1,h2],sd @Nat.zero_add,sd @vT2,sd @Nat.zero_add⟩
 ·rintro pre cs rest e0 s0 kv vv hpp ⟨l',rfl,hout,Hn,jB,hT,h5,e2⟩ hK hpart hvv
  have sP:cs∈ts.map aa:=hpp.subset (by simp)
  obtain⟨tl,hx,rfl⟩:=List.mem_map.1 sP
  have E4:=hpp.length_eq
  simp only[List.length_append,List.length_map,List.length_cons]at E4
  simp[part,aa,MK.ks]at hpart hvv
  subst hpart hvv
  rw[Am,An]
  have Sb:=h.tv
  have vT:=dw (i:=T) (n:=s0.next) (by omega)
  have v5:=dw (i:=⟨135000000,σ.next⟩) (n:=s0.next) (by(try dsimp only);omega)
  clear hpp sP hK
  have hm1:l'.map aa++[aa tl]=(l'++[tl]).map aa:=by simp
  have xx:=Gw l' tl
  have rE:(l'++[tl]).map aa=l'.map aa++[[.int .i64 tl.aO.eY,.int .i64 tl.aO.eS,.int .i64 tl.aQ]]:=by rw[List.map_append];rfl
  rcases hout with⟨MF,e3⟩|⟨o,e3,og,on,ov⟩
  ·subst MF
   (try((repeat(revert hN;revert N;apply Pn.out));refine wk (tw @e3 @e2) ?_;(repeat(refine Pn.mk ?_;intro N hN))))
   exact⟨[]++[tl],hm1,.inr ⟨⟨135005005,s0.next+1+1⟩,sl @Nat.zero_add,sl @Nat.zero_add,by(try dsimp only);omega,by(try dsimp only);omega⟩,by(try dsimp only);omega,fun y hy Ra=>by
    have h1:=dw (i:=y) (n:=s0.next) (by omega)
    have h2:=jB y hy Ra
    simp only[go_sem, ↓reduceIte,Nat.reduceEqDiff,Nat.reduceAdd,Nat.reduceSub,Nat.reduceLeDiff,reduceCtorEq,h1,h2],sd (tw @vT @hT),sd (tw @v5 @h5),sd @e2⟩
  ·have vo:=dw ov
   have oT:=cr (a:=T) (b:=o) (by omega)
   have o5:=cr (a:=⟨135000000,σ.next⟩) (b:=o) (by(try dsimp only);omega)
   have lE:(l'.map aa).length=l'.length:=by simp
   have e1:l'.length<=16777215:=by omega
   (try((repeat(revert hN;revert N;apply Pn.out));refine wk (tw @e3 (tw @e2 (tw @og (tw @vo (tw @lE @e1))))) ?_;(repeat(refine Pn.mk ?_;intro N hN))))
   exact⟨l'++[tl],hm1,.inr ⟨⟨135005005,s0.next+1+1⟩,by rw[xx];simp only[go_sem, ↓reduceIte,Nat.reduceEqDiff,Nat.reduceAdd,Nat.reduceSub,Nat.reduceLeDiff,reduceCtorEq]<;>rfl,by rw[rE];simp only[go_sem, ↓reduceIte,Nat.reduceEqDiff,Nat.reduceAdd,Nat.reduceSub,Nat.reduceLeDiff,reduceCtorEq]<;>rfl,by(try dsimp only);omega,by(try dsimp only);omega⟩,by(try dsimp only);omega,fun y hy Ra=>by
    have h1:=dw (i:=y) (n:=s0.next) (by omega)
    have h2:=jB y hy Ra
    have h3:=cr (a:=y) (b:=o) (by omega)
    simp only[go_sem, ↓reduceIte,Nat.reduceEqDiff,Nat.reduceAdd,Nat.reduceSub,Nat.reduceLeDiff,reduceCtorEq,h1,h2,h3],sd (tw @vT (tw @oT @hT)),sd (tw @v5 (tw @o5 @h5)),sd @e2⟩
 ·rintro pre e0 s0 hpp ⟨l',rfl,hout,Hn,jB,hT,h5,e2⟩ hK
  clear hK
  have l7:l'.Perm ts:=by
   have:∀{a b:List ad},(a.map aa).Perm (b.map aa)->a.Perm b:=fun {a b} qv=>by
    have h2:=qv.map (fun cs:List AV=>match cs with|[.int _ x,.int _ y,.int _ t]=>(⟨⟨x,y⟩,t⟩:ad)|_=>default)
    simpa[List.map_map,Function.comp_def,aa]using h2
   exact this hpp
  have Uc:=l7.length_eq
  rcases hout with⟨MF,e3⟩|⟨o,e3,og,on,ov⟩
  ·exfalso
   subst MF
   exact h0 (List.eq_nil_of_length_eq_zero Uc.symm)
  have gW:l'≠[]:=fun e=>h0 (List.eq_nil_of_length_eq_zero (by rw[<-Uc,e];rfl))
  (try((repeat(revert hN;revert N;apply Pn.out));refine wk (tw @Ao.eq_1 (tw @Aq.eq_1 (tw @e3 @e2))) ?_;(repeat(refine Pn.mk ?_;intro N hN))))
  refine .inr (aJ _ _ _ _ _ (fun r σ1 hq=>?_) (ze l' L (by omega) gW hR (l7.trans hp) ⟨s0.get,_⟩ o (by(try dsimp only);omega) og))
  obtain⟨g1,x1⟩:=σ1
  obtain⟨o2,rfl,q1,q2,q3,q4⟩:=hq
  (try dsimp only at q1 q2 q3 q4)
  have k5:=(q4 ⟨135000000,σ.next⟩ (by(try dsimp only);omega)).trans h5
  have o25:=cr (a:=⟨135000000,σ.next⟩) (b:=o2) (by(try dsimp only);omega)
  refine hN _ _ ?_
  clear hN N
  (try((repeat(revert hN;revert N;apply Pn.out));refine wk (tw @Ao.eq_1 (tw @Aq.eq_1 (tw @e2 @k5))) ?_;(repeat(refine Pn.mk ?_;intro N hN))))
  exact fw (.inl rfl) (vs:=[.agg [.own o2 0 L.length]]) (by rw[Aq];simp only[fq,iq,go_sem, ↓reduceIte,Nat.reduceEqDiff,Nat.reduceAdd,Nat.reduceSub,Nat.reduceLeDiff,reduceCtorEq,e2]) ⟨o2,rfl,sd (tw @o25 @q1),by omega,by(try dsimp only);omega,by(try dsimp only);omega,fun y hy Ra=>by
   have h1:=dw (i:=y) (n:=σ.next) hy
   simp only[go_sem, ↓reduceIte,Nat.reduceEqDiff,Nat.reduceAdd,Nat.reduceSub,Nat.reduceLeDiff,reduceCtorEq,h1]
   exact(q4 y (by omega)).trans (jB y hy Ra)⟩
end Go.Proofs.YtgoelphibofcmaaGreat.V

namespace Go.Proofs.YtgoelphibofcmaaGreat.V
open Go.RowKit
attribute [local irreducible] dI wpOps gD Call
attribute [local go_sem] aM fM eP gp gm cN upd cD K.av cR AV.cells AV.cell rowOf rowsOf part ld rowAt bz cu dG ef ik bQ dh eA gj e9 dq ek dd dc dU dV bW bf cW bV cY cX ei eo ej cV ck de eh bU aT da cG ij bx cQ b4 aY dn bc dH AV.undef bF bI eb ee dP dM cJ ez eE cF er ep cZ db List.getD_cons_zero List.getD_cons_succ List.getD_nil List.all_cons List.all_nil Bool.and_true Bool.true_and Bool.and_self Bool.not_true Bool.not_false Option.map_some Option.map_none Option.bind_some Option.bind_none List.length_cons List.length_nil List.take_succ_cons List.take_zero List.take_nil List.drop_succ_cons List.drop_zero List.drop_nil List.head?_cons List.map_cons List.map_nil List.getElem?_cons_zero List.getElem?_cons_succ List.cons_append List.nil_append List.append_nil List.length_map List.set_cons_zero List.set_cons_succ Nat.reduceMul eq_self Int.toNat_natCast Int.natCast_nonneg and_self true_and and_true decide_true decide_false Bool.false_eq_true Nat.zero_add Nat.add_zero List.contains_cons List.contains_nil Bool.or_false Bool.false_or beq_self_eq_true Nat.reduceBEq ne_eq not_true_eq_false not_false_eq_true Id.mk.injEq false_and and_false Nat.reduceLT Int.reduceLE Int.reduceLT Int.reduceToNat Int.reduceNeg Int.reduceAdd Nat.le_refl List.length_append beq_true beq_false Bool.not_eq_eq_eq_not or_false false_or dO ai aj aH bp bE cz aX bl aW bj cU bH
theorem lP.three {g g':Rows} {n n':Nat} {c T O:Id} {s:aA} {ts:List ad} (h:lP g n c T O s ts) (hn:n<=n') (hc:g' c=g c) (hT:g' T=g T) (hO:g' O=g O):lP g' n' c T O s ts:=
 ⟨hc.trans h.row,hT.trans h.tl,by rw[hO];exact h.op,Nat.lt_of_lt_of_le h.cv hn,Nat.lt_of_lt_of_le h.tv hn,Nat.lt_of_lt_of_le h.ov hn,h.cT,h.cO,h.TO⟩
theorem yP (q:ad):∀l:List ad,(l++[q]).Perm (iz l q)
 |[]=>List.Perm.refl _
 |x::l=>by
  have ih:=yP q l
  rw[iz]
  split
  ·exact List.perm_append_comm (l₁:=x::l) (l₂:=[q])
  ·exact ih.cons x
structure oi (s:aA) (S:iS):Prop where
 at_:∀q,gx (s.aZ.ah++S.1) q=gx S.2 q
 perm:(s.aZ.ah++S.1).Perm S.2
theorem oi.fit {s:aA} {S:iS} (h:oi s S) (p:aD) (t:Int):j4 s (s.aZ.ah++S.1) p t=j4 s S.2 p t:=by
 have e:gx (s.aZ.ah++S.1)=gx S.2:=funext h.at_
 unfold j4
 rw[e]
theorem oi.no {s:aA} {S:iS} (h:oi s S) {p:aD} (h0:eD S.2 p<0):eD (s.aZ.ah++S.1) p<0:=lI.2 fun t ht=>lI.1 h0 t (h.perm.subset ht)
theorem oi.put {s:aA} {S:iS} (h:oi s S) {x:ad} (h0:eD S.2 x.aO<0):oi s (S.1++[x],iz S.2 x) where
 at_ q:=by
  show gx (s.aZ.ah++(S.1++[x])) q=gx (iz S.2 x) q
  rw[<-List.append_assoc,zf q (lI.1 (h.no h0)),AN q (lI.1 h0),h.at_]
 perm:=by
  show(s.aZ.ah++(S.1++[x])).Perm (iz S.2 x)
  rw[<-List.append_assoc]
  exact(h.perm.append_right [x]).trans (yP x S.2)
structure M6 (σ:ar) (m:Nat) (c T O:Id) (s:aA) (l:List ad) (S:iS) (e7:AV) (g:Rows) (n:Nat):Prop where
 xc:lP g n c T O s (s.aZ.ah++S.1)
 u:(S.1=[]/\e7=.cq)∨∃u:Id,e7=.own u 0 S.1.length/\g u=some ⟨true,3,S.1.map aa⟩/\m<=u.bP/\u.bP<n/\0<S.1.length
 lo:m<=n
 fr:∀x:Id,x.bP<m->x≠T->x≠O->x≠c->g x=σ.get x
theorem M6.frame {σ:ar} {m:Nat} {c T O:Id} {s:aA} {l:List ad} {S:iS} {e7 Qb:AV} {g g':Rows} {n n':Nat} (h:M6 σ m c T O s l S e7 g n) (he:Qb=e7) (hn:n<=n') (hf:∀x:Id,x.bP<n->g' x=g x):M6 σ m c T O s l S Qb g' n' where
 xc:=h.xc.frame hn hf
 u:=by
  subst he
  rcases h.u with h1|⟨u,h1,h2,h3,h4,h5⟩
  ·exact .inl h1
  ·exact .inr ⟨u,h1,(hf u h4).trans h2,h3,by omega,h5⟩
 lo:=Nat.le_trans h.lo hn
 fr x hx h1 h2 h3:=(hf x (Nat.lt_of_lt_of_le hx h.lo)).trans (h.fr x hx h1 h2 h3)
theorem IV (s:aA) (hP:uW s) (l:List ad) (hA:jl s.aE l) (hW:iR s.aZ.ah l=true) (σ:ar):Call Tryz.prog 78 [.agg (aw s),.agg [.sl (l.map aa)]] σ (fun r σ'=>∃v o,r=.gK [v,.agg [.own o 0 (iW s l).2.length]]/\(((iW s l).1=[]/\v=.cq)∨∃u:Id,v=.own u 0 (iW s l).1.length/\σ'.get u=some ⟨true,3,(iW s l).1.map aa⟩/\σ.next<=u.bP/\u.bP<σ'.next/\u.bP<o.bP/\0<(iW s l).1.length)/\σ'.get o=some ⟨true,3,(iW s l).2.map aa⟩/\σ.next<=o.bP/\o.bP<σ'.next/\∀x:Id,x.bP<σ.next->σ'.get x=σ.get x):=by
 refine eT eB rfl fun lj=>?_
 clear lj
 have Iu:=hA.1.rn
 have K2:=sV hP hA hW
 have QX:=K2.rn
 (try dsimp only at QX)
 have hsf:=hP.z8
 (try((repeat(revert hN;revert N;apply Pn.out));refine wk @aw.eq_1 ?_;(repeat(refine Pn.mk ?_;intro N hN))))
 have hc:=fun σ=>zU s hP.set s.aZ.ah hP.z8 σ
 rw[aw]at hc
 refine .inr (aJ _ _ _ _ _ (fun r σ1 hq=>?_) (hc _))
 obtain⟨g1,x1⟩:=σ1
 obtain⟨c,T,O,rfl,hC,Si,Sb,hOv,qx,jB⟩:=hq
 (try dsimp only at hC Si Sb hOv qx jB)
 have k3:=jB ⟨78000001,σ.next⟩ (by(try dsimp only);omega)
 have k5:=jB ⟨78000003,σ.next⟩ (by(try dsimp only);omega)
 simp only[go_sem, ↓reduceIte,Nat.reduceEqDiff,Nat.reduceAdd,Nat.reduceSub,Nat.reduceLeDiff,reduceCtorEq]at k3 k5
 have hcx:=hC.cv
 have hTx:=hC.tv
 have hOx:=hC.ov
 refine hN _ _ ?_
 clear hN N
 (try((repeat(revert hN;revert N;apply Pn.out));refine wk (tw @k3 (tw @k5 @aw.eq_1)) ?_;(repeat(refine Pn.mk ?_;intro N hN))))
 refine aV (fun n env st=>∃(S:iS) (m:Nat) (go:Bool),n=(if go then m else 0)/\env 8=.bool go/\(go=true->v7 s l m S=iW s l/\oH l S.2<m)/\(go=false->S=iW s l)/\n9 s l S/\oi s S/\M6 ⟨g1,x1⟩ x1 c T O s l S (env 7) st.get st.next) (l.length+1) ⟨([],s.aZ.ah),l.length+1,true,rfl,sd @Nat.zero_add,fun _=>⟨rfl,by have:=ES l s.aZ.ah;(try dsimp only);omega⟩,fun h=>(by cases h),K2,⟨fun q=>by simp,by simp⟩,?_⟩ ?_
 ·refine⟨?_,.inl ⟨rfl,sd @Nat.zero_add⟩,by(try dsimp only);omega,fun x hx h1 h2 h3=>sd @Nat.zero_add⟩
  have:=hC.frame (g':=g1) (n':=x1+1+1+1) (by omega) fun x hx=>rfl
  simpa using this
 rintro n1 e1 st1 ⟨S,m,go,rfl,e8,rC,hend,hI,hSm,hR⟩ hk
 have c3:=hk 3 (by kernel_rfl)
 have c5:=hk 5 (by kernel_rfl)
 have c6:=hk 6 (by kernel_rfl)
 simp only[go_sem, ↓reduceIte,Nat.reduceEqDiff,Nat.reduceAdd,Nat.reduceSub,Nat.reduceLeDiff,reduceCtorEq]at c3 c5 c6
 clear hk hc
 have nv:∀{x y:Id},x.bP<y.bP->x≠y:=fun h e=>by rw[e]at h;omega
 have b3:=(hR.fr ⟨78000001,σ.next⟩ (by(try dsimp only);omega) (nv (by(try dsimp only);omega)) (nv (by(try dsimp only);omega)) (nv (by(try dsimp only);omega))).trans k3
 have b5:=(hR.fr ⟨78000003,σ.next⟩ (by(try dsimp only);omega) (nv (by(try dsimp only);omega)) (nv (by(try dsimp only);omega)) (nv (by(try dsimp only);omega))).trans k5
 have hRl:=hR.lo
 cases go
 ·have hS:=hend rfl
  subst hS
  clear hend rC
  (try((repeat(revert hN;revert N;apply Pn.out));refine wk (tw @e8 @c6) ?_;(repeat(refine Pn.mk ?_;intro N hN))))
  have CF:=hI.len
  have hsf2:=hI.rn
  refine .inr (aJ _ _ _ _ _ (fun r σ2 hq=>?_) (CT (σ:=⟨st1.get,_⟩) (L:=(iW s l).2) (hR.xc.frame (by(try dsimp only);omega) fun x _=>rfl) (by rw[List.length_append];omega) (fun e=>by have:=congrArg List.length e;rw[List.length_append,List.length_nil]at this;have:=hP.some;omega) hI.GP hSm.perm))
  obtain⟨g2,x2⟩:=σ2
  obtain⟨o,rfl,q1,q2,q3,q4,q5⟩:=hq
  (try dsimp only at q1 q2 q3 q4 q5)
  have d5:=(q5 ⟨78000003,σ.next⟩ (by(try dsimp only);omega) (nv (by(try dsimp only);omega))).trans b5
  refine hN _ _ ?_
  clear hN N
  (try((repeat(revert hN;revert N;apply Pn.out));refine wk (tw @c5 (tw @d5 @c6)) ?_;(repeat(refine Pn.mk ?_;intro N hN))))
  have vv:∀x:Id,σ.next<x.bP->(x=(⟨78000003,σ.next⟩:Id))=False:=fun x hx=>eq_false fun e=>by rw[e]at hx;(try dsimp only at hx);omega
  have vo:=vv o (by omega)
  refine fw (.inl rfl) (vs:=[e1 7,.agg [.own o 0 (iW s l).2.length]]) (sd @c5) ⟨_,o,rfl,?_,sd (tw @vo @q1),by omega,by(try dsimp only);omega,fun x hx=>?_⟩
  ·rcases hR.u with h1|⟨u,h1,h2,h3,h4,h40⟩
   ·exact .inl h1
   ·have vu:=vv u (by omega)
    have h5:=(q5 u (by(try dsimp only);omega) (fun e=>by rw[e]at h3;omega)).trans h2
    exact .inr ⟨u,h1,sd (tw @vu @h5),by omega,by(try dsimp only);omega,by(try dsimp only at q2);omega,h40⟩
  ·have h1:=dw hx
   have h2:=q5 x (by omega) (nv (by omega))
   have h3:=hR.fr x (by omega) (nv (by omega)) (nv (by omega)) (nv (by omega))
   have h4:=jB x (by(try dsimp only);omega)
   simp only[go_sem, ↓reduceIte,Nat.reduceEqDiff,Nat.reduceAdd,Nat.reduceSub,Nat.reduceLeDiff,reduceCtorEq,h1]at h4
   (try dsimp only at h3)
   simp only[go_sem, ↓reduceIte,Nat.reduceEqDiff,Nat.reduceAdd,Nat.reduceSub,Nat.reduceLeDiff,reduceCtorEq,h1]
   exact h2.trans (h3.trans h4)
 ·obtain⟨hF,hm⟩:=rC rfl
  clear hend rC
  have Dr:fJ s l S 0=S:=by simp[fJ]
  (try((repeat(revert hN;revert N;apply Pn.out));refine wk (tw @e8 (tw @c3 @b3)) ?_;(repeat(refine Pn.mk ?_;intro N hN))))
  refine aV (fun n env st=>∃i:Nat,n=(l.length)-i/\i<=(l.length)/\env 19=.int .i64 (i:Int)/\(env 8=.bool (decide ((fJ s l S i).1.length≠S.1.length))/\oi s (fJ s l S i)/\M6 ⟨g1,x1⟩ x1 c T O s l (fJ s l S i) (env 7) st.get st.next)) (l.length) ⟨0,by omega,by omega,sl (tw @c3 (tw @c5 @c6)),by(try dsimp only);exact⟨by rw[Dr];simp only[go_sem, ↓reduceIte,Nat.reduceEqDiff,Nat.reduceAdd,Nat.reduceSub,Nat.reduceLeDiff,reduceCtorEq]<;>simp,by rw[Dr];exact hSm,by rw[Dr];exact hR.frame (sd @Nat.zero_add) (by(try dsimp only);omega) fun x _=>rfl⟩⟩ ?_
  rintro n_b env_b st_b ⟨i,rfl,ble,b19,bI0⟩ fW
  have b3:=fW 3 (by kernel_rfl);have b5:=fW 5 (by kernel_rfl);have b6:=fW 6 (by kernel_rfl);have Kl:=fW 17 (by kernel_rfl);have Km:=fW 18 (by kernel_rfl)
  simp only[go_sem, ↓reduceIte,Nat.reduceEqDiff,Nat.reduceAdd,Nat.reduceSub,Nat.reduceLeDiff,reduceCtorEq,c3,c5,c6]at b3 b5 b6 Kl Km
  clear fW
  obtain⟨b8,bS,bR⟩:=bI0
  obtain⟨AD,Ix,CC⟩:=w6 hI hA i (by omega)
  by_cases hi:(i:Int)<(l.length:Int)
  ·have ga:∀{e:Env} {gg:Rows} {nx:Nat},(e 19=.int .i64 (IntKind.i64.wrap ((i:Int)+1)))->(e 8=.bool (decide ((fJ s l S (i+1)).1.length≠S.1.length))/\oi s (fJ s l S (i+1))/\M6 ⟨g1,x1⟩ x1 c T O s l (fJ s l S (i+1)) (e 7) gg nx)->∃m0,m0<(l.length)-i/\∃i:Nat,m0=(l.length)-i/\i<=(l.length)/\e 19=.int .i64 (i:Int)/\(e 8=.bool (decide ((fJ s l S i).1.length≠S.1.length))/\oi s (fJ s l S i)/\M6 ⟨g1,x1⟩ x1 c T O s l (fJ s l S i) (e 7) gg nx):=fun x1 x2=>⟨_,by omega,i+1,rfl,by omega,(by rw[x1,az (by omega)]),x2⟩
   have ft:i<l.length:=by omega
   have yl:=qC s l S ft
   have hx:=gG ft
   have ht:=hA.2 _ hx
   have j6:=fu ft
   have Qn:=AD.asm hA
   have lE:(l.map aa).length=l.length:=by simp
   have TE:=AD.rn
   have TF:=AD.len
   have Ll:Cb (aI l i).aO=true:=hA.1.pt ft
   generalize fJ s l S i=U at AD Qn yl TE TF CC b8 bS bR
   have hFU:∀q,0<=gx (s.aZ.ah++U.1) q->eK s.aE (gx (s.aZ.ah++U.1) q)=true:=fun q hq=>by
    rw[bS.at_]at hq ⊢
    exact iF.Mp Qn q hq
   (try((repeat(revert hN;revert N;apply Pn.out));refine wk (tw @b19 (tw @b3 (tw @b5 (tw @b6 (tw @Kl (tw @Km (tw @hi (tw @j6 (tw @lE @aa.eq_1))))))))) ?_;(repeat(refine Pn.mk ?_;intro N hN))))
   have sN:=bS.fit (aI l i).aO (aI l i).aQ
   refine .inl ⟨_,Ic (bR.xc.xc.frame (by(try dsimp only);omega) (by(have:=dw bR.xc.cv);simp only[go_sem, ↓reduceIte,Nat.reduceEqDiff,Nat.reduceAdd,Nat.reduceSub,Nat.reduceLeDiff,reduceCtorEq,this]) (by(have:=dw bR.xc.tv);simp only[go_sem, ↓reduceIte,Nat.reduceEqDiff,Nat.reduceAdd,Nat.reduceSub,Nat.reduceLeDiff,reduceCtorEq,this])) hP.set hFU (aI l i).aO (aI l i).aQ ht,?_⟩
   refine hN _ _ ?_
   clear hN N
   cases hf:j4 s U.2 (aI l i).aO (aI l i).aQ
   ·rw[v8 hf]at yl
    rw[hf]at sN
    (try((repeat(revert hN;revert N;apply Pn.out));refine wk (tw @b19 (tw @b3 (tw @b5 (tw @b6 (tw @Kl (tw @Km (tw @sN @j6))))))) ?_;(repeat(refine Pn.mk ?_;intro N hN))))
    exact ga (sd (tw @b19 (tw @b3 (tw @b5 (tw @b6 (tw @Kl @Km)))))) (by(try dsimp only);exact⟨by rw[yl];simp only[go_sem, ↓reduceIte,Nat.reduceEqDiff,Nat.reduceAdd,Nat.reduceSub,Nat.reduceLeDiff,reduceCtorEq,b8],by rw[yl];exact bS,by rw[yl];exact bR.frame (sd @Nat.zero_add) (by(try dsimp only);omega) (fun y hy=>by
     have h9:=dw hy
     simp only[go_sem, ↓reduceIte,Nat.reduceEqDiff,Nat.reduceAdd,Nat.reduceSub,Nat.reduceLeDiff,reduceCtorEq,h9])⟩)
   ·rw[tL hf]at yl
    rw[hf]at sN
    (try((repeat(revert hN;revert N;apply Pn.out));refine wk (tw @b19 (tw @b3 (tw @b5 (tw @b6 (tw @Kl (tw @Km (tw @sN @j6))))))) ?_;(repeat(refine Pn.mk ?_;intro N hN))))
    have h0:=bS.no (oF hA AD.sub hf)
    have Bp:=bR.lo
    have cx:=bR.xc.cv
    have Tx:=bR.xc.tv
    have Ox:=bR.xc.ov
    refine .inr (aJ _ _ _ _ _ (fun r σ2 hq=>?_) (Rq (σ:=⟨bz (bz st_b.get ⟨78008002,st_b.next+1⟩ ⟨true,3,[[.int .i64 0,.int .i64 0,.int .i64 0]]⟩) ⟨78008002,st_b.next+1⟩ ⟨true,3,[[.int .i64 (aI l i).aO.eY,.int .i64 (aI l i).aO.eS,.int .i64 (aI l i).aQ]]⟩,st_b.next+1+1+1+1⟩) (bR.xc.frame (by(try dsimp only);omega) fun x hx=>by
     have h9:=dw hx
     simp only[go_sem, ↓reduceIte,Nat.reduceEqDiff,Nat.reduceAdd,Nat.reduceSub,Nat.reduceLeDiff,reduceCtorEq,h9]) hP.set hFU (aI l i).aO Ll (aI l i).aQ ht h0))
    obtain⟨g2,x2⟩:=σ2
    obtain⟨rfl,Ik,Le,Ks⟩:=hq
    (try dsimp only at Ik Le Ks)
    have kt:=Ks ⟨78008002,st_b.next+1⟩ (by(try dsimp only);omega) (fun e=>by rw[<-e]at Tx;(try dsimp only at Tx);omega) (fun e=>by rw[<-e]at Ox;(try dsimp only at Ox);omega)
    simp only[go_sem, ↓reduceIte,Nat.reduceEqDiff,Nat.reduceAdd,Nat.reduceSub,Nat.reduceLeDiff,reduceCtorEq]at kt
    have yn:(⟨(aI l i).aO,(aI l i).aQ⟩:ad)=aI l i:=rfl
    rw[yn,List.append_assoc]at Ik
    have hd:decide ((U.1++[aI l i]).length≠S.1.length)=true:=decide_eq_true (by rw[iM];omega)
    have xx:=iM U.1 (aI l i)
    have rE:=rM U.1 (aI l i)
    have SU:=dw (i:=⟨78008002,st_b.next+1⟩) (n:=x2) (by(try dsimp only);omega)
    have c2:=dw Ik.cv
    have T2:=dw Ik.tv
    have O2:=dw Ik.ov
    have Iv:∀y:Id,y.bP<x1->y≠T->y≠O->g2 y=st_b.get y:=fun y hy h1 h2=>by
     have h3:=Ks y (by omega) h1 h2
     have h4:=dw (i:=y) (n:=st_b.next) (by omega)
     simp only[go_sem, ↓reduceIte,Nat.reduceEqDiff,Nat.reduceAdd,Nat.reduceSub,Nat.reduceLeDiff,reduceCtorEq,h4]at h3
     exact h3
    refine hN _ _ ?_
    clear hN N
    rcases bR.u with⟨hU,b7⟩|⟨u,b7,bu,hu3,hu4,_⟩
    ·(try((repeat(revert hN;revert N;apply Pn.out));refine wk (tw @b19 (tw @b3 (tw @b5 (tw @b6 (tw @Kl (tw @Km (tw @b7 (tw @kt @SU)))))))) ?_;(repeat(refine Pn.mk ?_;intro N hN))))
     exact ga (sd (tw @b19 (tw @b3 (tw @b5 (tw @b6 (tw @Kl @Km)))))) (by(try dsimp only);exact⟨by rw[yl,hd]<;>simp only[go_sem, ↓reduceIte,Nat.reduceEqDiff,Nat.reduceAdd,Nat.reduceSub,Nat.reduceLeDiff,reduceCtorEq],by rw[yl];exact bS.put (oF hA AD.sub hf),by
      rw[yl]
      refine⟨Ik.three (by(try dsimp only);omega) (sd @c2) (sd @T2) (sd @O2),.inr ⟨⟨78011003,x2+1⟩,by rw[xx,hU];simp only[go_sem, ↓reduceIte,Nat.reduceEqDiff,Nat.reduceAdd,Nat.reduceSub,Nat.reduceLeDiff,reduceCtorEq]<;>rfl,by rw[rE,hU];simp only[go_sem, ↓reduceIte,Nat.reduceEqDiff,Nat.reduceAdd,Nat.reduceSub,Nat.reduceLeDiff,reduceCtorEq]<;>rfl,by(try dsimp only);omega,by(try dsimp only);omega,by(try dsimp only);rw[iM];omega⟩,by(try dsimp only);omega,fun y hy h1 h2 h3=>?_⟩
      have h4:=dw (i:=y) (n:=x2) (by omega)
      have h5:=Iv y hy h1 h2
      have h6:=bR.fr y hy h1 h2 h3
      (try dsimp only at h6)
      simp only[go_sem, ↓reduceIte,Nat.reduceEqDiff,Nat.reduceAdd,Nat.reduceSub,Nat.reduceLeDiff,reduceCtorEq,h4,h5,h6]⟩)
    ·have ku:=Ks u (by(try dsimp only);omega) (fun e=>by rw[e]at hu3;omega) (fun e=>by rw[e]at hu3;omega)
     have vu:=dw hu4
     simp only[go_sem, ↓reduceIte,Nat.reduceEqDiff,Nat.reduceAdd,Nat.reduceSub,Nat.reduceLeDiff,reduceCtorEq,vu,bu]at ku
     have UU:=dw (i:=u) (n:=x2) (by omega)
     have ut:=cr (a:=u) (b:=⟨78008002,st_b.next+1⟩) (by(try dsimp only);omega)
     have UF:(U.1.map aa).length=U.1.length:=by simp
     have SG:U.1.length<=16777215:=by omega
     have uc:=cr (a:=c) (b:=u) (by omega)
     have uT:=cr (a:=T) (b:=u) (by omega)
     have uO:=cr (a:=O) (b:=u) (by omega)
     (try((repeat(revert hN;revert N;apply Pn.out));refine wk (tw @b19 (tw @b3 (tw @b5 (tw @b6 (tw @Kl (tw @Km (tw @b7 (tw @kt (tw @SU (tw @ku (tw @UU (tw @ut (tw @UF @SG))))))))))))) ?_;(repeat(refine Pn.mk ?_;intro N hN))))
     exact ga (sd (tw @b19 (tw @b3 (tw @b5 (tw @b6 (tw @Kl @Km)))))) (by(try dsimp only);exact⟨by rw[yl,hd]<;>simp only[go_sem, ↓reduceIte,Nat.reduceEqDiff,Nat.reduceAdd,Nat.reduceSub,Nat.reduceLeDiff,reduceCtorEq],by rw[yl];exact bS.put (oF hA AD.sub hf),by
      rw[yl]
      refine⟨Ik.three (by(try dsimp only);omega) (sd (tw @c2 @uc)) (sd (tw @T2 @uT)) (sd (tw @O2 @uO)),.inr ⟨⟨78011003,x2+1⟩,by rw[xx];simp only[go_sem, ↓reduceIte,Nat.reduceEqDiff,Nat.reduceAdd,Nat.reduceSub,Nat.reduceLeDiff,reduceCtorEq]<;>rfl,by rw[rE];simp only[go_sem, ↓reduceIte,Nat.reduceEqDiff,Nat.reduceAdd,Nat.reduceSub,Nat.reduceLeDiff,reduceCtorEq]<;>rfl,by(try dsimp only);omega,by(try dsimp only);omega,by(try dsimp only);rw[iM];omega⟩,by(try dsimp only);omega,fun y hy h1 h2 h3=>?_⟩
      have h4:=dw (i:=y) (n:=x2) (by omega)
      have h5:=Iv y hy h1 h2
      have h6:=bR.fr y hy h1 h2 h3
      have h7:=cr (a:=y) (b:=u) (by omega)
      (try dsimp only at h6)
      simp only[go_sem, ↓reduceIte,Nat.reduceEqDiff,Nat.reduceAdd,Nat.reduceSub,Nat.reduceLeDiff,reduceCtorEq,h4,h5,h6,h7]⟩)
  ·have lD:i=l.length:=by omega
   subst lD
   rw[pg]at AD b8 Ix bS bR
   have qx:=yv hI hA hm
   (try((repeat(revert hN;revert N;apply Pn.out));refine wk (tw @b19 (tw @b3 (tw @b5 (tw @b6 (tw @Kl (tw @Km @hi)))))) ?_;(repeat(refine Pn.mk ?_;intro N hN))))
   by_cases he:(gy s l S).1.length=S.1.length
   ·refine⟨0,by show 0<m;omega,gy s l S,0,false,rfl,?_,fun h=>(by cases h),fun _=>(qx.1 he).symm.trans hF,AD,bS,bR.frame (sd @Nat.zero_add) (by(try dsimp only);omega) fun x _=>rfl⟩
    simp only[go_sem, ↓reduceIte,Nat.reduceEqDiff,Nat.reduceAdd,Nat.reduceSub,Nat.reduceLeDiff,reduceCtorEq,b8,he]<;>simp
   ·obtain⟨m',rfl,K0,Hm⟩:=qx.2 he
    refine⟨m',Nat.lt_succ_self _,gy s l S,m',true,rfl,?_,fun _=>⟨K0.symm.trans hF,Hm⟩,fun h=>(by cases h),AD,bS,bR.frame (sd @Nat.zero_add) (by(try dsimp only);omega) fun x _=>rfl⟩
    have hd:=decide_eq_true he
    simp only[go_sem, ↓reduceIte,Nat.reduceEqDiff,Nat.reduceAdd,Nat.reduceSub,Nat.reduceLeDiff,reduceCtorEq,b8]
    rw[hd]
end Go.Proofs.YtgoelphibofcmaaGreat.V

namespace Go.Proofs.YtgoelphibofcmaaGreat.V
open Go.RowKit
attribute [local irreducible] dI wpOps gD Call
attribute [local go_sem] aM fM eP gp gm cN upd cD K.av cR AV.cells AV.cell rowOf rowsOf part ld rowAt bz cu dG ef ik bQ dh eA gj e9 dq ek dd dc dU dV bW bf cW bV cY cX ei eo ej cV ck de eh bU aT da cG ij bx cQ b4 aY dn bc dH AV.undef bF bI eb ee dP dM cJ ez eE cF er ep cZ db List.getD_cons_zero List.getD_cons_succ List.getD_nil List.all_cons List.all_nil Bool.and_true Bool.true_and Bool.and_self Bool.not_true Bool.not_false Option.map_some Option.map_none Option.bind_some Option.bind_none List.length_cons List.length_nil List.take_succ_cons List.take_zero List.take_nil List.drop_succ_cons List.drop_zero List.drop_nil List.head?_cons List.map_cons List.map_nil List.getElem?_cons_zero List.getElem?_cons_succ List.cons_append List.nil_append List.append_nil List.length_map List.set_cons_zero List.set_cons_succ Nat.reduceMul eq_self Int.toNat_natCast Int.natCast_nonneg and_self true_and and_true decide_true decide_false Bool.false_eq_true Nat.zero_add Nat.add_zero List.contains_cons List.contains_nil Bool.or_false Bool.false_or beq_self_eq_true Nat.reduceBEq ne_eq not_true_eq_false not_false_eq_true Id.mk.injEq false_and and_false Nat.reduceLT Int.reduceLE Int.reduceLT Int.reduceToNat Int.reduceNeg Int.reduceAdd Nat.le_refl List.length_append beq_true beq_false Bool.not_eq_eq_eq_not or_false false_or dO ai aj aH bp bE cz aX bl aW bj cU bH
end Go.Proofs.YtgoelphibofcmaaGreat.V

namespace Go.Proofs.YtgoelphibofcmaaGreat.V
open Go.RowKit
attribute [local irreducible] dI wpOps gD Call
attribute [local go_sem] aM fM eP gp gm cN upd cD K.av cR AV.cells AV.cell rowOf rowsOf part ld rowAt bz cu dG ef ik bQ dh eA gj e9 dq ek dd dc dU dV bW bf cW bV cY cX ei eo ej cV ck de eh bU aT da cG ij bx cQ b4 aY dn bc dH AV.undef bF bI eb ee dP dM cJ ez eE cF er ep cZ db List.getD_cons_zero List.getD_cons_succ List.getD_nil List.all_cons List.all_nil Bool.and_true Bool.true_and Bool.and_self Bool.not_true Bool.not_false Option.map_some Option.map_none Option.bind_some Option.bind_none List.length_cons List.length_nil List.take_succ_cons List.take_zero List.take_nil List.drop_succ_cons List.drop_zero List.drop_nil List.head?_cons List.map_cons List.map_nil List.getElem?_cons_zero List.getElem?_cons_succ List.cons_append List.nil_append List.append_nil List.length_map List.set_cons_zero List.set_cons_succ Nat.reduceMul eq_self Int.toNat_natCast Int.natCast_nonneg and_self true_and and_true decide_true decide_false Bool.false_eq_true Nat.zero_add Nat.add_zero List.contains_cons List.contains_nil Bool.or_false Bool.false_or beq_self_eq_true Nat.reduceBEq ne_eq not_true_eq_false not_false_eq_true Id.mk.injEq false_and and_false Nat.reduceLT Int.reduceLE Int.reduceLT Int.reduceToNat Int.reduceNeg Int.reduceAdd Nat.le_refl List.length_append beq_true beq_false Bool.not_eq_eq_eq_not or_false false_or dO ai aj aH bp bE cz aX bl aW bj cU bH
end Go.Proofs.YtgoelphibofcmaaGreat.V

namespace Go.Proofs.YtgoelphibofcmaaGreat.V
open Go.RowKit
attribute [local irreducible] dI wpOps gD Call
attribute [local go_sem] aM fM eP gp gm cN upd cD K.av cR AV.cells AV.cell rowOf rowsOf part ld rowAt bz cu dG ef ik bQ dh eA gj e9 dq ek dd dc dU dV bW bf cW bV cY cX ei eo ej cV ck de eh bU aT da cG ij bx cQ b4 aY dn bc dH AV.undef bF bI eb ee dP dM cJ ez eE cF er ep cZ db List.getD_cons_zero List.getD_cons_succ List.getD_nil List.all_cons List.all_nil Bool.and_true Bool.true_and Bool.and_self Bool.not_true Bool.not_false Option.map_some Option.map_none Option.bind_some Option.bind_none List.length_cons List.length_nil List.take_succ_cons List.take_zero List.take_nil List.drop_succ_cons List.drop_zero List.drop_nil List.head?_cons List.map_cons List.map_nil List.getElem?_cons_zero List.getElem?_cons_succ List.cons_append List.nil_append List.append_nil List.length_map List.set_cons_zero List.set_cons_succ Nat.reduceMul eq_self Int.toNat_natCast Int.natCast_nonneg and_self true_and and_true decide_true decide_false Bool.false_eq_true Nat.zero_add Nat.add_zero List.contains_cons List.contains_nil Bool.or_false Bool.false_or beq_self_eq_true Nat.reduceBEq ne_eq not_true_eq_false not_false_eq_true Id.mk.injEq false_and and_false Nat.reduceLT Int.reduceLE Int.reduceLT Int.reduceToNat Int.reduceNeg Int.reduceAdd Nat.le_refl List.length_append beq_true beq_false Bool.not_eq_eq_eq_not or_false false_or dO ai aj aH bp bE cz aX bl aW bj cU bH
theorem s6 {s:aA} {l:List ad}:je s l=0↔uW s/\jl s.aE l/\iR s.aZ.ah l=true:=by
 unfold je
 cases b:qV s l
 ·simp;intro h1 h2;exact absurd (qW.2 ⟨h1,h2⟩) (by rw[b];simp)
 ·obtain⟨h1,h2⟩:=qW.1 b
  cases iR s.aZ.ah l<;>simp[h1,h2]
end Go.Proofs.YtgoelphibofcmaaGreat.V

namespace Go.Proofs.YtgoelphibofcmaaGreat.V
open Go.RowKit
attribute [local irreducible] dI wpOps gD Call
attribute [local go_sem] aM fM eP gp gm cN upd cD K.av cR AV.cells AV.cell rowOf rowsOf part ld rowAt bz cu dG ef ik bQ dh eA gj e9 dq ek dd dc dU dV bW bf cW bV cY cX ei eo ej cV ck de eh bU aT da cG ij bx cQ b4 aY dn bc dH AV.undef bF bI eb ee dP dM cJ ez eE cF er ep cZ db List.getD_cons_zero List.getD_cons_succ List.getD_nil List.all_cons List.all_nil Bool.and_true Bool.true_and Bool.and_self Bool.not_true Bool.not_false Option.map_some Option.map_none Option.bind_some Option.bind_none List.length_cons List.length_nil List.take_succ_cons List.take_zero List.take_nil List.drop_succ_cons List.drop_zero List.drop_nil List.head?_cons List.map_cons List.map_nil List.getElem?_cons_zero List.getElem?_cons_succ List.cons_append List.nil_append List.append_nil List.length_map List.set_cons_zero List.set_cons_succ Nat.reduceMul eq_self Int.toNat_natCast Int.natCast_nonneg and_self true_and and_true decide_true decide_false Bool.false_eq_true Nat.zero_add Nat.add_zero List.contains_cons List.contains_nil Bool.or_false Bool.false_or beq_self_eq_true Nat.reduceBEq ne_eq not_true_eq_false not_false_eq_true Id.mk.injEq false_and and_false Nat.reduceLT Int.reduceLE Int.reduceLT Int.reduceToNat Int.reduceNeg Int.reduceAdd Nat.le_refl List.length_append beq_true beq_false Bool.not_eq_eq_eq_not or_false false_or dO ai aj aH bp bE cz aX bl aW bj cU bH
structure Pr (g:Rows) (n:Nat) (A S C c T O:Id) (s:aA) (l:List ad):Prop where
 a:∃b,g A=some ⟨b,1,[[.sl (l.map aa)]]⟩
 sy:∃b,g S=some ⟨b,4,[aw s]⟩
 p:∃b,g C=some ⟨b,1,[[.ptr c 0 0]]⟩
 xc:Cx g n c T O s l
 av:A.bP<n
 sv:S.bP<n
 pv:C.bP<n
theorem Pr.ro {g:Rows} {n:Nat} {A S C c T O:Id} {s:aA} {l:List ad} (h:Pr g n A S C c T O s l):Pr (V.ro g) n A S C c T O s l:=by
 obtain⟨b,h1⟩:=h.a
 obtain⟨b2,h2⟩:=h.sy
 obtain⟨b3,h3⟩:=h.p
 exact⟨⟨false,by simp[V.ro,h1]⟩,⟨false,by simp[V.ro,h2]⟩,⟨false,by simp[V.ro,h3]⟩,h.xc.ro,h.av,h.sv,h.pv⟩
theorem Pr.frame {g g':Rows} {n n':Nat} {A S C c T O:Id} {s:aA} {l:List ad} (h:Pr g n A S C c T O s l) (hn:n<=n') (hf:∀x:Id,x.bP<n->g' x=g x):Pr g' n' A S C c T O s l:=
 ⟨by rw[hf _ h.av];exact h.a,by rw[hf _ h.sv];exact h.sy,by rw[hf _ h.pv];exact h.p,h.xc.frame hn (hf _ h.xc.cv) (hf _ h.xc.tv),Nat.lt_of_lt_of_le h.av hn,Nat.lt_of_lt_of_le h.sv hn,Nat.lt_of_lt_of_le h.pv hn⟩
end Go.Proofs.YtgoelphibofcmaaGreat.V

namespace Go.Proofs.YtgoelphibofcmaaGreat.V
open Go.RowKit
attribute [local irreducible] dI wpOps gD Call
attribute [local go_sem] aM fM eP gp gm cN upd cD K.av cR AV.cells AV.cell rowOf rowsOf part ld rowAt bz cu dG ef ik bQ dh eA gj e9 dq ek dd dc dU dV bW bf cW bV cY cX ei eo ej cV ck de eh bU aT da cG ij bx cQ b4 aY dn bc dH AV.undef bF bI eb ee dP dM cJ ez eE cF er ep cZ db List.getD_cons_zero List.getD_cons_succ List.getD_nil List.all_cons List.all_nil Bool.and_true Bool.true_and Bool.and_self Bool.not_true Bool.not_false Option.map_some Option.map_none Option.bind_some Option.bind_none List.length_cons List.length_nil List.take_succ_cons List.take_zero List.take_nil List.drop_succ_cons List.drop_zero List.drop_nil List.head?_cons List.map_cons List.map_nil List.getElem?_cons_zero List.getElem?_cons_succ List.cons_append List.nil_append List.append_nil List.length_map List.set_cons_zero List.set_cons_succ Nat.reduceMul eq_self Int.toNat_natCast Int.natCast_nonneg and_self true_and and_true decide_true decide_false Bool.false_eq_true Nat.zero_add Nat.add_zero List.contains_cons List.contains_nil Bool.or_false Bool.false_or beq_self_eq_true Nat.reduceBEq ne_eq not_true_eq_false not_false_eq_true Id.mk.injEq false_and and_false Nat.reduceLT Int.reduceLE Int.reduceLT Int.reduceToNat Int.reduceNeg Int.reduceAdd Nat.le_refl List.length_append beq_true beq_false Bool.not_eq_eq_eq_not or_false false_or dO ai aj aH bp bE cz aX bl aW bj cU bH
def iL (p:aD->Bool) (l:List aD):List aD:=l.filter fun x=> !p x
theorem qE {p:aD->Bool} {l:List aD} {j:Nat} (hj:j<l.length):iL p (l.take (j+1))=iL p (l.take j)++if p l[j]=true then[]else[l[j]]:=by
 unfold iL
 rw[List.take_succ_eq_append_getElem hj,List.filter_append]
 congr 1
 cases h:p l[j]<;>simp[h]
theorem Dy {p:aD->Bool} {l:List aD} (h:∀b∈l,p b=false):iL p l=l:=by
 unfold iL
 rw[List.filter_eq_self]
 intro b hb
 rw[h b hb];rfl
structure Kk (p:aD->Bool) (bs:List aD) (j:Nat) (R:List aD):Prop where
 len:R.length=bs.length
 pre:R.take (iL p (bs.take j)).length=iL p (bs.take j)
 post:∀x,j<=x->R[x]? =bs[x]?
 lt:(iL p (bs.take j)).length<j
theorem Kk.start {p:aD->Bool} {bs:List aD} {i:Nat} (hi:i<bs.length) (hw:p bs[i]=true) (hp:∀x (h:x<i),p bs[x]=false):Kk p bs (i+1) bs/\(iL p (bs.take (i+1))).length=i:=by
 have h1:iL p (bs.take i)=bs.take i:=Dy fun b hb=>by
  obtain⟨x,hx,rfl⟩:=List.getElem_of_mem hb
  rw[List.length_take]at hx
  rw[List.getElem_take]
  exact hp x (by omega)
 have h2:iL p (bs.take (i+1))=bs.take i:=by rw[qE hi,if_pos hw,List.append_nil,h1]
 have h3:(bs.take i).length=i:=by rw[List.length_take];omega
 exact⟨⟨rfl,by rw[h2,h3],fun _ _=>rfl,by rw[h2,h3];omega⟩,by rw[h2,h3]⟩
theorem Kk.RD {p:aD->Bool} {bs R:List aD} {j:Nat} (h:Kk p bs j R) (hj:j<bs.length) (hw:p bs[j]=true):Kk p bs (j+1) R/\(iL p (bs.take (j+1))).length=(iL p (bs.take j)).length:=by
 have h2:iL p (bs.take (j+1))=iL p (bs.take j):=by rw[qE hj,if_pos hw,List.append_nil]
 exact⟨⟨h.len,by rw[h2];exact h.pre,fun x hx=>h.post x (by omega),by rw[h2];have:=h.lt;omega⟩,by rw[h2]⟩
theorem Kk.qD {p:aD->Bool} {bs R:List aD} {j:Nat} (h:Kk p bs j R) (hj:j<bs.length) (hw:p bs[j]=false):Kk p bs (j+1) (R.set (iL p (bs.take j)).length bs[j])/\(iL p (bs.take (j+1))).length=(iL p (bs.take j)).length+1:=by
 have h2:iL p (bs.take (j+1))=iL p (bs.take j)++[bs[j]]:=by rw[qE hj,hw];rfl
 have dQ:=h.lt
 have hlen:=h.len
 have ui:=h.pre
 generalize hc:(iL p (bs.take j)).length=c at *
 refine⟨⟨by rw[List.length_set];exact hlen,?_,fun x hx=>?_,by rw[h2,List.length_append,hc];simp;omega⟩,by rw[h2,List.length_append,hc];rfl⟩
 ·rw[h2,List.length_append,hc,List.length_singleton,List.take_succ_eq_append_getElem (by rw[List.length_set];omega),List.getElem_set_self,List.take_set_of_le (Nat.le_refl _),ui]
 ·rw[List.getElem?_set_ne (by omega)];exact h.post x (by omega)
theorem Kk.at_ {p:aD->Bool} {bs R:List aD} {j:Nat} (h:Kk p bs j R) (hj:j<bs.length):(R.map ae)[j]? =some (ae bs[j]):=by
 rw[List.getElem?_map,h.post j (Nat.le_refl j),List.getElem?_eq_getElem hj];rfl
end Go.Proofs.YtgoelphibofcmaaGreat.V

namespace Go.Proofs.YtgoelphibofcmaaGreat.V
open Go.RowKit
attribute [local irreducible] dI wpOps gD Call
attribute [local go_sem] aM fM eP gp gm cN upd cD K.av cR AV.cells AV.cell rowOf rowsOf part ld rowAt bz cu dG ef ik bQ dh eA gj e9 dq ek dd dc dU dV bW bf cW bV cY cX ei eo ej cV ck de eh bU aT da cG ij bx cQ b4 aY dn bc dH AV.undef bF bI eb ee dP dM cJ ez eE cF er ep cZ db List.getD_cons_zero List.getD_cons_succ List.getD_nil List.all_cons List.all_nil Bool.and_true Bool.true_and Bool.and_self Bool.not_true Bool.not_false Option.map_some Option.map_none Option.bind_some Option.bind_none List.length_cons List.length_nil List.take_succ_cons List.take_zero List.take_nil List.drop_succ_cons List.drop_zero List.drop_nil List.head?_cons List.map_cons List.map_nil List.getElem?_cons_zero List.getElem?_cons_succ List.cons_append List.nil_append List.append_nil List.length_map List.set_cons_zero List.set_cons_succ Nat.reduceMul eq_self Int.toNat_natCast Int.natCast_nonneg and_self true_and and_true decide_true decide_false Bool.false_eq_true Nat.zero_add Nat.add_zero List.contains_cons List.contains_nil Bool.or_false Bool.false_or beq_self_eq_true Nat.reduceBEq ne_eq not_true_eq_false not_false_eq_true Id.mk.injEq false_and and_false Nat.reduceLT Int.reduceLE Int.reduceLT Int.reduceToNat Int.reduceNeg Int.reduceAdd Nat.le_refl List.length_append beq_true beq_false Bool.not_eq_eq_eq_not or_false false_or dO ai aj aH bp bE cz aX bl aW bj cU bH
structure nw (n:Nat) (px:Nat->Option Nat) (L:Nat->Nat):Prop where
 top:∀k,k<n->px k=none->L k=k
 up:∀k j,k<n->px k=some j->j<k/\L j=L k
theorem nw.root {n:Nat} {px:Nat->Option Nat} {L:Nat->Nat} (h:nw n px L) (hL:jH L) {k:Nat} (hk:k<n) (hr:L k=k):px k=none:=by
 rcases hp:px k with _|j
 ·rfl
 ·obtain⟨h1,h2⟩:=h.up k j hk hp
  have:=hL.le j
  omega
theorem nw.start (n:Nat):nw n (fun _=>none) id:=⟨fun _ _ _=>rfl,fun _ _ _ h=>by cases h⟩
theorem nw.join {n:Nat} {px:Nat->Option Nat} {L:Nat->Nat} (h:nw n px L) (hL:jH L) (b:PB) (dQ:min (L b.a) (L b.b)<max (L b.a) (L b.b)):nw n (fun k=>if k=max (L b.a) (L b.b)then some (min (L b.a) (L b.b))else px k) (eO L b):=by
 have ha:=hL.idem b.a
 have hb:=hL.idem b.b
 have zF:L (min (L b.a) (L b.b))=min (L b.a) (L b.b):=by
  rcases Nat.le_total (L b.a) (L b.b)with h|h
  ·rw[Nat.min_eq_left h,ha]
  ·rw[Nat.min_eq_right h,hb]
 have QP:L (max (L b.a) (L b.b))=max (L b.a) (L b.b):=by
  rcases Nat.le_total (L b.a) (L b.b)with h|h
  ·rw[Nat.max_eq_right h,hb]
  ·rw[Nat.max_eq_left h,ha]
 unfold eO
 generalize min (L b.a) (L b.b)=lo at *
 generalize max (L b.a) (L b.b)=hi at *
 refine⟨fun k hk hp=>?_,fun k j hk hp=>?_⟩
 ·by_cases Kv:k=hi
  ·rw[if_pos Kv]at hp;cases hp
  ·rw[if_neg Kv]at hp
   have:=h.top k hk hp
   rw[if_neg (by omega)];exact this
 ·by_cases Kv:k=hi
  ·rw[if_pos Kv]at hp
   cases hp
   subst Kv
   exact⟨dQ,by rw[if_neg (by omega),if_pos QP,zF]⟩
  ·rw[if_neg Kv]at hp
   obtain⟨h1,h2⟩:=h.up k j hk hp
   exact⟨h1,by rw[h2]⟩
theorem zM {L:Nat->Nat} {b:PB} (h:L b.a=L b.b):eO L b=L:=by
 funext k
 unfold eO
 rw[h,Nat.max_self,Nat.min_self]
 split
 ·rename_i h;exact h.symm
 ·rfl
def sJ (G:Nat->Id) (px:Nat->Option Nat) (k:Nat):List AV:=[match px k with|none=>.gR|some j=>.ptr (G j) 0 0,.int .i64 (k:Int)]
def tY (g:Rows) (G:Nat->Id) (n:Nat) (px:Nat->Option Nat):Prop:=∀k,k<n->g (G k)=some ⟨true,2,[sJ G px k]⟩
theorem tY.frame {g g':Rows} {G:Nat->Id} {n:Nat} {px:Nat->Option Nat} (h:tY g G n px) (hf:∀k,k<n->g' (G k)=g (G k)):tY g' G n px:=fun k hk=>(hf k hk).trans (h k hk)
theorem lz {G:Nat->Id} {px:Nat->Option Nat} {k:Nat} (h:px k=none):sJ G px k=[.gR,.int .i64 (k:Int)]:=by rw[sJ,h]
theorem tG {G:Nat->Id} {px:Nat->Option Nat} {k j:Nat} (h:px k=some j):sJ G px k=[.ptr (G j) 0 0,.int .i64 (k:Int)]:=by rw[sJ,h]
theorem zr (G:Nat->Id) (n:Nat) (px:Nat->Option Nat) (L:Nat->Nat) (h:nw n px L) (k:Nat) (hk:k<n) (σ:ar) (hG:tY σ.get G n px):
  Call Tryz.prog 262 [.ptr (G k) 0 0] σ fun r σ'=>r=.ptr (G (L k)) 0 0/\σ'.get=σ.get/\σ.next<=σ'.next:=by
 refine eT eB rfl fun hl=>?_
 clear hl
 (try((repeat(revert hN;revert N;apply Pn.out));refine wk @Nat.zero_add ?_;(repeat(refine Pn.mk ?_;intro N hN))))
 refine aV (fun m env st=>∃j:Nat,m=j/\j<n/\env 0=.ptr (G j) 0 0/\L j=L k/\st.get=σ.get/\σ.next<=st.next) k ⟨k,rfl,hk,sd @Nat.zero_add,rfl,by(try dsimp only),by(try dsimp only);omega⟩ ?_
 rintro m env_b st_b ⟨j,rfl,hj,b0,hLj,hg,hle⟩ fW
 clear fW
 have fQ:=hG m hj
 rcases hp:px m with _|j
 ·rw[lz hp]at fQ
  (try((repeat(revert hN;revert N;apply Pn.out));refine wk (tw @b0 (tw @hg @fQ)) ?_;(repeat(refine Pn.mk ?_;intro N hN))))
  exact fw (.inl rfl) (vs:=[.ptr (G m) 0 0]) (sd @Nat.zero_add) ⟨by rw[<-hLj,h.top m hj hp];rfl,by first|trivial|rfl|exact hg,by(try dsimp only);omega⟩
 ·rw[tG hp]at fQ
  obtain⟨h1,h2⟩:=h.up m j hj hp
  (try((repeat(revert hN;revert N;apply Pn.out));refine wk (tw @b0 (tw @hg @fQ)) ?_;(repeat(refine Pn.mk ?_;intro N hN))))
  exact⟨j,h1,j,rfl,by omega,sd @Nat.zero_add,by omega,by first|trivial|rfl|exact hg,by(try dsimp only);omega⟩
end Go.Proofs.YtgoelphibofcmaaGreat.V

namespace Go.Proofs.YtgoelphibofcmaaGreat.V
open Go.RowKit
attribute [local irreducible] dI wpOps gD Call
attribute [local go_sem] aM fM eP gp gm cN upd cD K.av cR AV.cells AV.cell rowOf rowsOf part ld rowAt bz cu dG ef ik bQ dh eA gj e9 dq ek dd dc dU dV bW bf cW bV cY cX ei eo ej cV ck de eh bU aT da cG ij bx cQ b4 aY dn bc dH AV.undef bF bI eb ee dP dM cJ ez eE cF er ep cZ db List.getD_cons_zero List.getD_cons_succ List.getD_nil List.all_cons List.all_nil Bool.and_true Bool.true_and Bool.and_self Bool.not_true Bool.not_false Option.map_some Option.map_none Option.bind_some Option.bind_none List.length_cons List.length_nil List.take_succ_cons List.take_zero List.take_nil List.drop_succ_cons List.drop_zero List.drop_nil List.head?_cons List.map_cons List.map_nil List.getElem?_cons_zero List.getElem?_cons_succ List.cons_append List.nil_append List.append_nil List.length_map List.set_cons_zero List.set_cons_succ eq_self Int.toNat_natCast Int.natCast_nonneg and_self true_and and_true decide_true decide_false Bool.false_eq_true Nat.zero_add Nat.add_zero List.contains_cons List.contains_nil Bool.or_false Bool.false_or beq_self_eq_true ne_eq not_true_eq_false not_false_eq_true Id.mk.injEq false_and and_false Nat.le_refl List.length_append beq_true beq_false Bool.not_eq_eq_eq_not or_false false_or dO ai aj aH bp bE cz aX bl aW bj cU bH
abbrev mI:MK:=⟨false,[.tI]⟩
def sU (l:List (Nat×Nat)):List (List AV):=l.map fun p=>[.int .i64 (p.1:Int),.int .i64 (p.2:Int)]
theorem BC (r:Nat):∀(l:List (Nat×Nat)) (i:Nat),((∀p∈l,p.1≠r)->fZ mI [.int .i64 (r:Int)] (sU l) i=some none)/\(∀j v,l[j]? =some (r,v)->(∀x y,x<j->l[x]? =some y->y.1≠r)->fZ mI [.int .i64 (r:Int)] (sU l) i=some (some (i+j)))
 |[],i=>⟨fun _=>rfl,fun j v h=>by simp at h⟩
 |p::l,i=>by
  obtain⟨h1,h2⟩:=BC r l (i+1)
  by_cases h:p.1=r
  ·refine⟨fun hp=>absurd h (hp p (by simp)),fun j v hj hf=>?_⟩
   have hj0:j=0:=by
    rcases Nat.eq_zero_or_pos j with h0|h0
    ·exact h0
    ·exact absurd h (hf 0 p h0 (by simp))
   subst hj0
   simp[sU,fZ,e9,gj,MK.ks,h]
  ·have hd:¬((r:Int)=(p.1:Int)):=by omega
   have nO:¬r=p.1:=fun he=>h he.symm
   have step:fZ mI [.int .i64 (r:Int)] (sU (p::l)) i=fZ mI [.int .i64 (r:Int)] (sU l) (i+1):=by
    unfold sU
    simp[fZ,MK.ks,e9,gj,hd,nO,h]
   rw[step]
   refine⟨fun hp=>h1 fun q hq=>hp q (by simp[hq]),fun j v hj hf=>?_⟩
   cases j with
   |zero=>simp at hj;rw[hj]at h;exact absurd rfl h
   |succ j=>
    rw[h2 j v (by simpa using hj) fun x y hx hy=>hf (x+1) y (by omega) (by simpa using hy)]
    congr 2;omega
theorem yu {r:Nat} {l:List (Nat×Nat)}:((∀p∈l,p.1≠r)->fK mI (.int .i64 (r:Int)) (sU l)=some none)/\(∀j v,l[j]? =some (r,v)->(∀x y,x<j->l[x]? =some y->y.1≠r)->fK mI (.int .i64 (r:Int)) (sU l)=some (some j)):=by
 have e:fK mI (.int .i64 (r:Int)) (sU l)=fZ mI [.int .i64 (r:Int)] (sU l) 0:=by
  unfold fK
  rw[if_pos ⟨rfl,rfl,rfl⟩];rfl
 obtain⟨h1,h2⟩:=BC r l 0
 rw[e]
 exact⟨h1,fun j v hj hf=>by rw[h2 j v hj hf,Nat.zero_add]⟩
def kQ (k:Nat) (L:Nat->Nat):List (List AV):=sU (leads k L).zipIdx
theorem DF {k:Nat} {L:Nat->Nat} (h:L k=k):kQ (k+1) L=kQ k L++[[.int .i64 (k:Int),.int .i64 ((leads k L).length:Int)]]:=by
 unfold kQ
 rw[gQ,if_pos h,List.zipIdx_append]
 simp[sU]
theorem DE {k:Nat} {L:Nat->Nat} (h:L k≠k):kQ (k+1) L=kQ k L:=by
 unfold kQ
 rw[gQ,if_neg h,List.append_nil]
theorem Gu {k:Nat} {L:Nat->Nat} (h:L k=k):fK mI (.int .i64 (k:Int)) (kQ k L)=some none:=by
 refine yu.1 fun p hp=>?_
 have:=List.fst_mem_of_mem_zipIdx hp
 have:=(yF.1 this).1
 omega
theorem yE {n:Nat} {L:Nat->Nat} {x y:Nat} (hx:x<(leads n L).length) (hy:y<(leads n L).length) (h:(leads n L)[x]=(leads n L)[y]):x=y:=by
 have hp:=List.pairwise_iff_getElem.1 (tN n L)
 rcases Nat.lt_trichotomy x y with dQ|he|dQ
 ·exact absurd h (hp x y hx hy dQ)
 ·exact he
 ·exact absurd h.symm (hp y x hy hx dQ)
theorem yD {k:Nat} {L:Nat->Nat} (hL:jH L) (h:L k≠k):fK mI (.int .i64 (L k:Int)) (kQ k L)=some (some (bJ L k))/\(kQ k L)[bJ L k]? =some [.int .i64 (L k:Int),.int .i64 (bJ L k:Int)]/\bJ L k<(leads k L).length:=by
 have dQ:L k<k:=Nat.lt_of_le_of_ne (hL.le k) h
 have hn:bJ L (L k)=bJ L k:=by rw[bJ,hL.idem,bJ]
 have hg:=ph hL dQ
 rw[hn,hL.idem]at hg
 have hl:bJ L k<(leads k L).length:=(List.getElem?_eq_some_iff.1 hg).1
 have hz:(leads k L).zipIdx[bJ L k]? =some (L k,bJ L k):=by simp[List.getElem?_zipIdx,hg]
 refine⟨yu.2 _ _ hz fun x y hx hy=>?_,by unfold kQ sU;rw[List.getElem?_map,hz];rfl,hl⟩
 intro he
 rw[List.getElem?_zipIdx]at hy
 have PO:x<(leads k L).length:=by omega
 rw[List.getElem?_eq_getElem PO]at hy
 simp at hy
 rw[<-hy]at he
 simp at he
 have e2:(leads k L)[bJ L k]=L k:=(List.getElem?_eq_some_iff.1 hg).2
 have:=yE PO hl (he.trans e2.symm)
 omega
def jM (k:Nat) (L:Nat->Nat):List (List Nat):=(leads k L).map (members k L)
theorem qt (k:Nat) (L:Nat->Nat):(jM k L).length=(leads k L).length:=by simp[jM]
theorem Dc {k:Nat} {L:Nat->Nat} (hL:jH L) (h:L k=k):jM (k+1) L=jM k L++[[k]]:=by
 unfold jM
 rw[gQ,if_pos h,List.map_append,List.map_cons,List.map_nil,jw,if_pos h,mZ hL (Nat.le_refl k),List.nil_append]
 congr 1
 refine List.map_congr_left fun r hr=>?_
 have:=(yF.1 hr).1
 rw[jw,if_neg (by omega),List.append_nil]
theorem Dd {k:Nat} {L:Nat->Nat} (hL:jH L) (h:L k≠k):(jM k L)[bJ L k]? =some (members k L (L k))/\jM (k+1) L=(jM k L).set (bJ L k) (members k L (L k)++[k]):=by
 obtain⟨_,_,hl⟩:=yD hL h
 have dQ:L k<k:=Nat.lt_of_le_of_ne (hL.le k) h
 have hg:=ph hL dQ
 have hn:bJ L (L k)=bJ L k:=by rw[bJ,hL.idem,bJ]
 rw[hn,hL.idem]at hg
 refine⟨by unfold jM;rw[List.getElem?_map,hg];rfl,?_⟩
 unfold jM
 rw[gQ,if_neg h,List.append_nil]
 refine List.ext_getElem? fun i=>?_
 rw[List.getElem?_set,List.getElem?_map,List.length_map]
 by_cases hi:bJ L k=i
 ·subst hi
  rw[if_pos rfl,if_pos hl,hg,Option.map_some,jw,if_pos rfl]
 ·rw[if_neg hi,List.getElem?_map]
  rcases hr:(leads k L)[i]? with _|r
  ·rfl
  ·rw[Option.map_some,Option.map_some,jw,if_neg,List.append_nil]
   rintro rfl
   obtain⟨lD,he⟩:=List.getElem?_eq_some_iff.1 hr
   have e2:(leads k L)[bJ L k]=L k:=(List.getElem?_eq_some_iff.1 hg).2
   exact hi (yE hl lD (e2.trans he.symm))
theorem BU (k:Nat) (L:Nat->Nat) (r:Nat):(members k L r).length<=k:=by
 have:=List.length_filter_le (fun x=>L x==r) (List.range k)
 simpa[members]using this
def FD (g:Rows) (o:Id) (L:List (List Nat)) (nx:Nat):Prop:=∃rows ids,g o=some ⟨true,1,rows⟩/\eH Pq g rows L ids/\ids.Nodup/\(∀i∈ids,i.site=240026008/\i.bP<nx)/\o.site=240025002/\o.bP<nx
theorem FD.frame {g g':Rows} {o:Id} {L:List (List Nat)} {nx uJ:Nat} (h:FD g o L nx) (hn:nx<=uJ) (hf:∀i:Id,(i.site=240026008∨i.site=240025002)->i.bP<nx->g' i=g i):FD g' o L uJ:=by
 obtain⟨rows,ids,h1,h2,h3,h4,h5,h6⟩:=h
 exact⟨rows,ids,(hf o (.inr h5) h6).trans h1,h2.frame LD fun i hi=>hf i (.inl (h4 i hi).1) (h4 i hi).2,h3,fun i hi=>⟨(h4 i hi).1,by have:=(h4 i hi).2;omega⟩,h5,by omega⟩
theorem KZ {g':Rows} {v v' uJ j:Nat} (h1:g' ⟨240025002,v⟩=some ⟨true,1,[[.own ⟨240026008,v'⟩ 0 1]]⟩) (h2:g' ⟨240026008,v'⟩=some ⟨true,1,[eN j]⟩) (hv:v<uJ) (nR:v'<uJ):FD g' ⟨240025002,v⟩ [[j]] uJ:=
 ⟨_,[⟨240026008,v'⟩],h1,.one ⟨_,rfl,h2,rfl⟩,by simp,fun i hi=>by rw[List.mem_singleton.1 hi];exact⟨rfl,nR⟩,rfl,hv⟩
theorem FD.new {g:Rows} {o:Id} {L:List (List Nat)} {nx:Nat} (h:FD g o L nx) (j:Nat):∃rows,g o=some ⟨true,1,rows⟩/\rows.length=L.length/\∀(g':Rows) (v v' uJ:Nat),nx<=v'->v<uJ->v'<uJ->g' ⟨240025002,v⟩=some ⟨true,1,rows++[[.own ⟨240026008,v'⟩ 0 1]]⟩->g' ⟨240026008,v'⟩=some ⟨true,1,[eN j]⟩->(∀i:Id,i.site=240026008->i.bP<nx->g' i=g i)->FD g' ⟨240025002,v⟩ (L++[[j]]) uJ:=by
 obtain⟨rows,ids,h1,h2,h3,h4,h5,h6⟩:=h
 refine⟨rows,h1,h2.len,fun g' v v' uJ hv ym Oo q1 q2 q3=>⟨_,ids++[⟨240026008,v'⟩],q1,(h2.frame LD fun i hi=>q3 i (h4 i hi).1 (h4 i hi).2).app (.one ⟨_,rfl,q2,rfl⟩),?_,fun i hi=>?_,rfl,ym⟩⟩
 ·refine List.nodup_append.2 ⟨h3,by simp,fun a ha b hb qv=>?_⟩
  rw[List.mem_singleton.1 hb]at qv
  have:=(h4 a ha).2
  rw[qv]at this
  simp only at this
  omega
 ·rcases List.mem_append.1 hi with hi|hi
  ·have:=h4 i hi;exact⟨this.1,by omega⟩
  ·rw[List.mem_singleton.1 hi];exact⟨rfl,Oo⟩
theorem FD.add {g:Rows} {o:Id} {L:List (List Nat)} {nx k:Nat} {La:List Nat} (h:FD g o L nx) (hk:L[k]? =some La) (j:Nat):∃rows id,g o=some ⟨true,1,rows⟩/\rows.length=L.length/\rows[k]? =some [.own id 0 La.length]/\g id=some ⟨true,1,La.map eN⟩/\id.site=240026008/\id.bP<nx/\∀(g':Rows) (v' uJ:Nat),nx<=v'->v'<uJ->g' o=some ⟨true,1,rows.set k [.own ⟨240026008,v'⟩ 0 (La.length+1)]⟩->g' ⟨240026008,v'⟩=some ⟨true,1,La.map eN++[[.int .i64 (j:Int)]]⟩->(∀i:Id,i.site=240026008->i.bP<nx->(i=id)=False->g' i=g i)->FD g' o (L.set k (La++[j])) uJ:=by
 obtain⟨rows,ids,h1,h2,h3,h4,h5,h6⟩:=h
 have l6:k<L.length:=(List.getElem?_eq_some_iff.1 hk).1
 have TA:=kK hk l6
 obtain⟨cs,ic,dt,Px,QJ,vY⟩:=h2.Rs LD h3 k l6
 rw[TA]at Px
 obtain⟨id,rfl,q1,rfl⟩:=Px
 have hid:=h4 id (QJ id (by simp))
 refine⟨rows,id,h1,h2.len,dt,q1,hid.1,hid.2,fun g' v' uJ hv ym r1 r2 r3=>?_⟩
 obtain⟨Dv,s1,s2,s3⟩:=vY g' [.own ⟨240026008,v'⟩ 0 (La.length+1)] (La++[j]) [⟨240026008,v'⟩] ⟨_,by simp,by rw[r2];simp[eN],rfl⟩ (fun i hi Sz=>r3 i (h4 i hi).1 (h4 i hi).2 (by
  simp only[eq_iff_iff,iff_false];rintro rfl;exact Sz (by simp))) (by simp) fun i hi hc=>by
   rw[List.mem_singleton.1 hi]at hc
   have:=(h4 _ hc).2
   simp only at this
   omega
 refine⟨_,Dv,r1,s1,s2,fun i hi=>?_,h5,by omega⟩
 rcases s3 i hi with h|h
 ·rw[List.mem_singleton.1 h];exact⟨rfl,ym⟩
 ·have:=h4 i h;exact⟨this.1,by omega⟩
def lY (G:Nat->Id) (n k:Nat):List (List AV):=(List.range n).map fun i=>[if i<k then .ptr (G i) 0 0 else .gR]
theorem mE (G:Nat->Id) (n k:Nat):(lY G n k).length=n:=by simp[lY]
theorem G4 (G:Nat->Id) (n:Nat):List.replicate n [AV.gR]=lY G n 0:=by
 refine List.ext_getElem? fun i=>?_
 by_cases h:i<n
 ·rw[List.getElem?_replicate,if_pos h];simp[lY,h]
 ·rw[List.getElem?_eq_none (by simp;omega),List.getElem?_eq_none (by rw[mE];omega)]
theorem wW {G:Nat->Id} {n i:Nat} (h:i<n):(lY G n n)[i]? =some [.ptr (G i) 0 0]:=by simp[lY,h]
theorem JV {G:Nat->Id} {n k:Nat} (h:k<n):(lY G n k).set k [.ptr (G k) 0 0]=lY G n (k+1):=by
 refine List.ext_getElem? fun i=>?_
 rw[List.getElem?_set,mE]
 by_cases hi:k=i
 ·subst hi;rw[if_pos rfl,if_pos h];simp[lY,h]
 ·rw[if_neg hi]
  by_cases ft:i<n
  ·simp only[lY,List.getElem?_map,List.getElem?_range ft,Option.map_some]
   by_cases yh:i<k
   ·rw[if_pos yh,if_pos (by omega)]
   ·rw[if_neg yh,if_neg (by omega)]
  ·rw[List.getElem?_eq_none (by rw[mE];omega),List.getElem?_eq_none (by rw[mE];omega)]
end Go.Proofs.YtgoelphibofcmaaGreat.V

namespace Go.Proofs.YtgoelphibofcmaaGreat.V
open Go.RowKit
attribute [local irreducible] dI wpOps gD Call
attribute [local go_sem] aM fM eP gp gm cN upd cD K.av cR AV.cells AV.cell rowOf rowsOf part ld rowAt bz cu dG ef ik bQ dh eA gj e9 dq ek dd dc dU dV bW bf cW bV cY cX ei eo ej cV ck de eh bU aT da cG ij bx cQ b4 aY dn bc dH AV.undef bF bI eb ee dP dM cJ ez eE cF er ep cZ db List.getD_cons_zero List.getD_cons_succ List.getD_nil List.all_cons List.all_nil Bool.and_true Bool.true_and Bool.and_self Bool.not_true Bool.not_false Option.map_some Option.map_none Option.bind_some Option.bind_none List.length_cons List.length_nil List.take_succ_cons List.take_zero List.take_nil List.drop_succ_cons List.drop_zero List.drop_nil List.head?_cons List.map_cons List.map_nil List.getElem?_cons_zero List.getElem?_cons_succ List.cons_append List.nil_append List.append_nil List.length_map List.set_cons_zero List.set_cons_succ Nat.reduceMul eq_self Int.toNat_natCast Int.natCast_nonneg and_self true_and and_true decide_true decide_false Bool.false_eq_true Nat.zero_add Nat.add_zero List.contains_cons List.contains_nil Bool.or_false Bool.false_or beq_self_eq_true Nat.reduceBEq ne_eq not_true_eq_false not_false_eq_true Id.mk.injEq false_and and_false Nat.reduceLT Int.reduceLE Int.reduceLT Int.reduceToNat Int.reduceNeg Int.reduceAdd Nat.le_refl List.length_append beq_true beq_false Bool.not_eq_eq_eq_not or_false false_or dO ai aj aH bp bE cz aX bl aW bj cU bH
theorem gU {o:Id} {a:Nat} (h:o.site=a) {b v:Nat} (qv:(a==b)=false):(o=⟨b,v⟩)=False/\((⟨b,v⟩:Id)=o)=False:=by
 have h1:=Ac h (v:=v) qv
 refine⟨h1,?_⟩
 simp only[eq_iff_iff,iff_false]at h1 ⊢
 exact fun h=>h1 h.symm
theorem vN (cnt:Nat) (xw:1<=cnt) (hn:cnt<=1048576) (bs:List PB) (hb:∀b∈bs,b.a<cnt/\b.b<cnt) (pW:bs.length<=1048576):aq Tryz.prog 240 [.int .i64 cnt,.sl (bs.map ay)] (.sl ((fx cnt (ew bs)).map AA)):=by
 intro n0
 refine Hv Nq rfl fun hl=>?_
 try simp only[q]
 clear hl
 have jJ:(0:Int)<=(cnt:Int):=by omega
 have pZ:(cnt:Int)<=((16777216:Nat):Int):=by omega
 obtain⟨G,hG⟩:∃G:Nat->Id,G=fun k=>⟨240005004,n0+3+4*k+2⟩:=⟨_,rfl⟩
 have R4:∀k,(G k).site=240005004:=fun k=>by rw[hG]
 have Tu:∀k,(G k).bP=n0+3+4*k+2:=fun k=>by rw[hG]
 have Ts:∀i j,i≠j->(G i=G j)=False:=fun i j h=>by
  simp only[eq_iff_iff,iff_false]
  intro he
  have h1:=Tu i
  rw[he,Tu j]at h1
  omega
 have K1:∀i s v,(240005004==s)=false->(G i=⟨s,v⟩)=False:=fun i s v h=>Ac (R4 i) h
 have hz:=G4 G cnt
 (try((repeat(revert hN;revert N;apply Pn.out));refine wk (tw @jJ (tw @pZ (tw @Int.le_refl @hz))) ?_;(repeat(refine Pn.mk ?_;intro N hN))))
 refine aV (fun n env st=>∃k:Nat,n=(cnt)-k/\k<=(cnt)/\env 21=.int .i64 (k:Int)/\st.get ⟨240001001,n0+1⟩=some ⟨true,1,lY G cnt k⟩/\(st.next=n0+3+4*k/\∀j:Nat,j<k->st.get (G j)=some ⟨true,2,[[.gR,.int .i64 (j:Int)]]⟩)) (cnt) ⟨0,by omega,by omega,sl @hz,sl @hz,⟨rfl,fun j hj=>by omega⟩⟩ ?_
 rintro n_a env_a st_a ⟨k,rfl,ale,a21,ag0,lQ⟩ dD
 have a0:=dD 0 (by kernel_rfl);have a1:=dD 1 (by kernel_rfl);have a5:=dD 5 (by kernel_rfl);have Nd:=dD 19 (by kernel_rfl);have a20:=dD 20 (by kernel_rfl)
 simp only[go_sem, ↓reduceIte,Nat.reduceEqDiff,Nat.reduceAdd,Nat.reduceSub,Nat.reduceLeDiff,reduceCtorEq,hz]at a0 a1 a5 Nd a20
 clear dD
 obtain⟨lQ,lZ⟩:=lQ
 by_cases hk:(k:Int)<(cnt:Int)
 ·have cC:∀{e:Env} {gg:Rows} {nx:Nat},(e 21=.int .i64 (IntKind.i64.wrap ((k:Int)+1)))->(gg ⟨240001001,n0+1⟩=some ⟨true,1,lY G cnt (k+1)⟩)->(nx=n0+3+4*(k+1)/\∀j:Nat,j<(k+1)->gg (G j)=some ⟨true,2,[[.gR,.int .i64 (j:Int)]]⟩)->∃m0,m0<(cnt)-k/\∃k:Nat,m0=(cnt)-k/\k<=(cnt)/\e 21=.int .i64 (k:Int)/\gg ⟨240001001,n0+1⟩=some ⟨true,1,lY G cnt k⟩/\(nx=n0+3+4*k/\∀j:Nat,j<k->gg (G j)=some ⟨true,2,[[.gR,.int .i64 (j:Int)]]⟩):=fun x1 x2 x3=>⟨_,by omega,k+1,rfl,by omega,(by rw[x1,az (by omega)]),x2,x3⟩
  have fy:k<cnt:=by omega
  have tl:=mE G cnt k
  have eC:=JV (G:=G) fy
  have eQ:(lY G cnt k)[k]? =some [.gR]:=by simp[lY,fy]
  have R0:(⟨240005004,st_a.next+1+1⟩:Id)=G k:=by rw[hG,lQ]
  have hGf:∀j,j<k->(G j=G k)=False:=fun j hj=>Ts j k (by omega)
  have zA:∀j,(G j=(⟨240001001,n0+1⟩:Id))=False:=fun j=>K1 j _ _ (by decide)
  have Df:∀j,((⟨240001001,n0+1⟩:Id)=G j)=False:=fun j=>by
   have:=zA j
   simp only[eq_iff_iff,iff_false]at this ⊢
   exact fun h=>this h.symm
  (try((repeat(revert hN;revert N;apply Pn.out));refine wk (tw @a21 (tw @ag0 (tw @a0 (tw @a1 (tw @a5 (tw @Nd (tw @a20 (tw @hk (tw @tl (tw @R0 (tw @zA (tw @Df (tw @eC @eQ))))))))))))) ?_;(repeat(refine Pn.mk ?_;intro N hN))))
  refine cC ?_ ?_ (by
   refine⟨by(try dsimp only)<;>omega,fun j hj=>?_⟩
   by_cases yi:j=k
   ·subst yi;simp only[go_sem, ↓reduceIte,Nat.reduceEqDiff,Nat.reduceAdd,Nat.reduceSub,Nat.reduceLeDiff,reduceCtorEq,R0,zA,Df]
   ·have hold:=lZ j (by omega)
    have gW:=hGf j (by omega)
    simp only[go_sem, ↓reduceIte,Nat.reduceEqDiff,Nat.reduceAdd,Nat.reduceSub,Nat.reduceLeDiff,reduceCtorEq,R0,zA,Df,gW,hold])
  all_goals simp only[go_sem, ↓reduceIte,Nat.reduceEqDiff,Nat.reduceAdd,Nat.reduceSub,Nat.reduceLeDiff,reduceCtorEq,a21,ag0,a0,a1,a5,Nd,a20,R0,zA,Df,eC]
 have l6:cnt=k:=by omega
 subst l6
 (try((repeat(revert hN;revert N;apply Pn.out));refine wk (tw @a21 (tw @ag0 (tw @a0 (tw @a1 (tw @a5 (tw @Nd (tw @a20 @hk))))))) ?_;(repeat(refine Pn.mk ?_;intro N hN))))
 refine aV (fun n env st=>∃i:Nat,n=(bs.length)-i/\i<=(bs.length)/\env 33=.int .i64 (i:Int)/\st.get ⟨240001001,n0+1⟩=some ⟨true,1,lY G cnt cnt⟩/\(n0+3+4*cnt<=st.next)/\(∃px,nw cnt px (ew (bs.take i))/\tY st.get G cnt px)) (bs.length) ⟨0,by omega,by omega,sl (tw @a21 (tw @ag0 (tw @a0 (tw @a1 (tw @a5 (tw @Nd @a20)))))),sl (tw @a21 (tw @ag0 (tw @a0 (tw @a1 (tw @a5 (tw @Nd @a20)))))),(by(try dsimp only);omega),⟨fun _=>none,nw.start cnt,lZ⟩⟩ ?_
 rintro n_b env_b st_b ⟨i,rfl,ble,tZ,bg0,bI0,bI1⟩ fW
 have b0:=fW 0 (by kernel_rfl);have b1:=fW 1 (by kernel_rfl);have b5:=fW 5 (by kernel_rfl);have xS:=fW 31 (by kernel_rfl);have tr:=fW 32 (by kernel_rfl)
 simp only[go_sem, ↓reduceIte,Nat.reduceEqDiff,Nat.reduceAdd,Nat.reduceSub,Nat.reduceLeDiff,reduceCtorEq,a21,ag0,a0,a1,a5,Nd,a20]at b0 b1 b5 xS tr
 clear fW
 obtain⟨px,Kx,R3⟩:=bI1
 have tl:=mE G cnt cnt
 have Qi:∀j v,(G j=(⟨240009002,v⟩:Id))=False:=fun j v=>K1 j _ v (by decide)
 have zA:∀j v,(G j=(⟨240001001,v⟩:Id))=False:=fun j v=>K1 j _ v (by decide)
 have Df:∀j v,((⟨240001001,v⟩:Id)=G j)=False:=fun j v=>by
  have:=zA j v
  simp only[eq_iff_iff,iff_false]at this ⊢
  exact fun h=>this h.symm
 have hGn:∀j,j<cnt->(G j).bP<st_b.next:=fun j hj=>by rw[Tu];omega
 by_cases hi:(i:Int)<(bs.length:Int)
 ·have ga:∀{e:Env} {gg:Rows} {nx:Nat},(e 33=.int .i64 (IntKind.i64.wrap ((i:Int)+1)))->(gg ⟨240001001,n0+1⟩=some ⟨true,1,lY G cnt cnt⟩)->(n0+3+4*cnt<=nx)->(∃px,nw cnt px (ew (bs.take (i+1)))/\tY gg G cnt px)->∃m0,m0<(bs.length)-i/\∃i:Nat,m0=(bs.length)-i/\i<=(bs.length)/\e 33=.int .i64 (i:Int)/\gg ⟨240001001,n0+1⟩=some ⟨true,1,lY G cnt cnt⟩/\(n0+3+4*cnt<=nx)/\(∃px,nw cnt px (ew (bs.take i))/\tY gg G cnt px):=fun x1 x2 x3 x4=>⟨_,by omega,i+1,rfl,by omega,(by rw[x1,az (by omega)]),x2,x3,x4⟩
  have ft:i<bs.length:=by omega
  have j6:(bs.map ay)[i]? =some (ay bs[i]):=by simp[ft]
  have F6:=hb _ (List.getElem_mem ft)
  have nQ:bs.take (i+1)=bs.take i++[bs[i]]:=List.take_succ_eq_append_getElem ft
  have lG:ew (bs.take (i+1))=eO (ew (bs.take i)) bs[i]:=by rw[nQ,we]
  have hL:=tM (bs.take i)
  generalize ew (bs.take i)=L at *
  generalize bs[i]=b at *
  have gA:=wW (G:=G) F6.1
  have gB:=wW (G:=G) F6.2
  have gI:(b.a:Int)<(cnt:Int):=by omega
  have fP:(b.b:Int)<(cnt:Int):=by omega
  (try((repeat(revert hN;revert N;apply Pn.out));refine wk (tw @tZ (tw @bg0 (tw @b0 (tw @b1 (tw @b5 (tw @xS (tw @tr (tw @hi (tw @j6 (tw @ay.eq_1 (tw @gA (tw @gB (tw @gI (tw @fP @tl)))))))))))))) ?_;(repeat(refine Pn.mk ?_;intro N hN))))
  refine Ke (fun e s=>e 0=.int .i64 cnt/\e 1=.sl (bs.map ay)/\e 5=.own ⟨240001001,n0+1⟩ 0 cnt/\e 31=.sl (bs.map ay)/\e 32=.int .i64 bs.length/\e 33=.int .i64 i/\e 9=.ptr (G (L b.a)) 0 0/\e 10=.ptr (G (L b.b)) 0 0/\(∀j:Id,j.bP<st_b.next->s.get j=st_b.get j)/\st_b.next<=s.next) ?_ ?_
  ·rintro e1 s1 ⟨m0,m1,m5,m31,m32,m33,m9,m10,mf,mn⟩
   refine hN _ _ ?_
   clear hN N
   have mG:tY s1.get G cnt px:=R3.frame fun k hk=>mf _ (hGn k hk)
   have mt:=(mf ⟨240001001,n0+1⟩ (by(try dsimp only);omega)).trans bg0
   have Ud:L b.a<cnt:=Nat.lt_of_le_of_lt (hL.le _) F6.1
   have QM:L b.b<cnt:=Nat.lt_of_le_of_lt (hL.le _) F6.2
   have ra:=mG _ Ud
   have rb:=mG _ QM
   rw[lz (Kx.root hL Ud (hL.idem _))]at ra
   rw[lz (Kx.root hL QM (hL.idem _))]at rb
   have put:∀(g':Rows) (lo hi:Nat),hi<cnt->g' (G hi)=some ⟨true,2,[[.ptr (G lo) 0 0,.int .i64 (hi:Int)]]⟩->(∀k,k≠hi->k<cnt->g' (G k)=s1.get (G k))->tY g' G cnt (fun k=>if k=hi then some lo else px k):=fun g' lo hi _ h1 h2 k hk=>by
    by_cases Kv:k=hi
    ·subst Kv;rw[h1,tG (j:=lo) (if_pos rfl)]
    ·rw[h2 k Kv hk,mG k hk]
     unfold sJ
     simp only[if_neg Kv]
   rcases Nat.lt_trichotomy (L b.a) (L b.b)with dQ|heq|dQ
   ·have N3:(L b.a:Int)<(L b.b:Int):=by omega
    have hj:=Kx.join hL b (by omega)
    rw[Nat.max_eq_right (by omega),Nat.min_eq_left (by omega),<-lG]at hj
    (try((repeat(revert hN;revert N;apply Pn.out));refine wk (tw @m0 (tw @m1 (tw @m5 (tw @m31 (tw @m32 (tw @m33 (tw @m9 (tw @m10 (tw @ra (tw @rb @N3)))))))))) ?_;(repeat(refine Pn.mk ?_;intro N hN))))
    refine ga ?_ ?_ (by(try dsimp only);omega) (⟨_,hj,put _ _ _ QM (sd @Nat.zero_add) (fun k hk _=>by
     have gW:=Ts k _ hk
     simp only[go_sem, ↓reduceIte,Nat.reduceEqDiff,Nat.reduceAdd,Nat.reduceSub,Nat.reduceLeDiff,reduceCtorEq,gW])⟩)
    all_goals simp only[go_sem, ↓reduceIte,Nat.reduceEqDiff,Nat.reduceAdd,Nat.reduceSub,Nat.reduceLeDiff,reduceCtorEq,m0,m1,m5,m31,m32,m33,mt,zA,Df]
   ·have xw:¬(L b.a:Int)<(L b.b:Int):=by omega
    have Le:¬(L b.b:Int)<(L b.a:Int):=by omega
    have Ln:=zM heq
    rw[Ln]at lG
    (try((repeat(revert hN;revert N;apply Pn.out));refine wk (tw @m0 (tw @m1 (tw @m5 (tw @m31 (tw @m32 (tw @m33 (tw @m9 (tw @m10 (tw @ra (tw @rb (tw @xw @Le))))))))))) ?_;(repeat(refine Pn.mk ?_;intro N hN))))
    refine ga ?_ ?_ (by(try dsimp only);omega) (⟨_,lG▸Kx,mG.frame fun k hk=>rfl⟩)
    all_goals simp only[go_sem, ↓reduceIte,Nat.reduceEqDiff,Nat.reduceAdd,Nat.reduceSub,Nat.reduceLeDiff,reduceCtorEq,m0,m1,m5,m31,m32,m33,mt]
   ·have N3:(L b.b:Int)<(L b.a:Int):=by omega
    have xw:¬(L b.a:Int)<(L b.b:Int):=by omega
    have hj:=Kx.join hL b (by omega)
    rw[Nat.max_eq_left (by omega),Nat.min_eq_right (by omega),<-lG]at hj
    (try((repeat(revert hN;revert N;apply Pn.out));refine wk (tw @m0 (tw @m1 (tw @m5 (tw @m31 (tw @m32 (tw @m33 (tw @m9 (tw @m10 (tw @ra (tw @rb (tw @N3 @xw))))))))))) ?_;(repeat(refine Pn.mk ?_;intro N hN))))
    refine ga ?_ ?_ (by(try dsimp only);omega) (⟨_,hj,put _ _ _ Ud (sd @Nat.zero_add) (fun k hk _=>by
     have gW:=Ts k _ hk
     simp only[go_sem, ↓reduceIte,Nat.reduceEqDiff,Nat.reduceAdd,Nat.reduceSub,Nat.reduceLeDiff,reduceCtorEq,gW])⟩)
    all_goals simp only[go_sem, ↓reduceIte,Nat.reduceEqDiff,Nat.reduceAdd,Nat.reduceSub,Nat.reduceLeDiff,reduceCtorEq,m0,m1,m5,m31,m32,m33,mt,zA,Df]
  ·intro N hN
   refine fa ?_ ?_<;>(try((repeat(revert hN;revert N;apply Pn.out));refine wk (tw @tZ (tw @bg0 (tw @b0 (tw @b1 (tw @b5 (tw @xS (tw @tr (tw @hi (tw @j6 (tw @ay.eq_1 (tw @gA (tw @gB (tw @gI (tw @fP @tl)))))))))))))) ?_;(repeat(refine Pn.mk ?_;intro N hN))))<;>(try refine fa ?_ ?_)<;>(try((repeat(revert hN;revert N;apply Pn.out));refine wk (tw @tZ (tw @bg0 (tw @b0 (tw @b1 (tw @b5 (tw @xS (tw @tr (tw @hi (tw @j6 (tw @ay.eq_1 (tw @gA (tw @gB (tw @gI (tw @fP @tl)))))))))))))) ?_;(repeat(refine Pn.mk ?_;intro N hN))))<;>(try refine fa ?_ ?_)<;>(try((repeat(revert hN;revert N;apply Pn.out));refine wk (tw @tZ (tw @bg0 (tw @b0 (tw @b1 (tw @b5 (tw @xS (tw @tr (tw @hi (tw @j6 (tw @ay.eq_1 (tw @gA (tw @gB (tw @gI (tw @fP @tl)))))))))))))) ?_;(repeat(refine Pn.mk ?_;intro N hN))))
   all_goals
    refine .inr (aJ _ _ _ _ _ (fun r σ1 hq=>?_) (zr G cnt px L Kx b.a F6.1 _ (R3.frame fun k hk=>sd @Qi)))
    obtain⟨g1,x1⟩:=σ1
    obtain⟨rfl,AE,Gc⟩:=hq
    (try dsimp only at AE Gc)
    subst AE
    refine hN _ _ ?_
    clear hN N
    (try((repeat(revert hN;revert N;apply Pn.out));refine wk (tw @tZ (tw @bg0 (tw @b0 (tw @b1 (tw @b5 (tw @xS (tw @tr (tw @hi (tw @j6 (tw @ay.eq_1 (tw @gA (tw @gB (tw @gI (tw @fP @tl)))))))))))))) ?_;(repeat(refine Pn.mk ?_;intro N hN))))
    refine .inr (aJ _ _ _ _ _ (fun r σ1 hq=>?_) (zr G cnt px L Kx b.b F6.2 _ (R3.frame fun k hk=>sd @Qi)))
    obtain⟨g1,x2⟩:=σ1
    obtain⟨rfl,AE,mV⟩:=hq
    (try dsimp only at AE mV)
    subst AE
    refine hN _ _ ?_
    clear hN N
    (try((repeat(revert hN;revert N;apply Pn.out));refine wk (tw @tZ (tw @bg0 (tw @b0 (tw @b1 (tw @b5 (tw @xS (tw @tr (tw @hi (tw @j6 (tw @ay.eq_1 (tw @gA (tw @gB (tw @gI (tw @fP @tl)))))))))))))) ?_;(repeat(refine Pn.mk ?_;intro N hN))))
    exact⟨sd (tw @tZ (tw @bg0 (tw @b0 (tw @b1 (tw @b5 (tw @xS @tr)))))),sd (tw @tZ (tw @bg0 (tw @b0 (tw @b1 (tw @b5 (tw @xS @tr)))))),sd (tw @tZ (tw @bg0 (tw @b0 (tw @b1 (tw @b5 (tw @xS @tr)))))),sd (tw @tZ (tw @bg0 (tw @b0 (tw @b1 (tw @b5 (tw @xS @tr)))))),sd (tw @tZ (tw @bg0 (tw @b0 (tw @b1 (tw @b5 (tw @xS @tr)))))),sd (tw @tZ (tw @bg0 (tw @b0 (tw @b1 (tw @b5 (tw @xS @tr)))))),sd (tw @tZ (tw @bg0 (tw @b0 (tw @b1 (tw @b5 (tw @xS @tr)))))),sd (tw @tZ (tw @bg0 (tw @b0 (tw @b1 (tw @b5 (tw @xS @tr)))))),fun j hj=>by
     have hv:=dw hj
     simp only[go_sem, ↓reduceIte,Nat.reduceEqDiff,Nat.reduceAdd,Nat.reduceSub,Nat.reduceLeDiff,reduceCtorEq,hv],by(try dsimp only);omega⟩
 have lD:i=bs.length:=by omega
 subst lD
 rw[List.take_length]at Kx
 have hL:=tM bs
 generalize ew bs=L at *
 (try((repeat(revert hN;revert N;apply Pn.out));refine wk (tw @tZ (tw @bg0 (tw @b0 (tw @b1 (tw @b5 (tw @xS (tw @tr (tw @hi @tl)))))))) ?_;(repeat(refine Pn.mk ?_;intro N hN))))
 have l0:kQ 0 L=[]:=rfl
 have oS:(none:Option Nat).isSome=false:=rfl
 have oT:∀a:Nat,(some a).isSome=true:=fun _=>rfl
 refine aV (fun n env st=>∃x:Nat,n=(cnt)-x/\x<=(cnt)/\env 81=.int .i64 (x:Int)/\st.get ⟨240001001,n0+1⟩=some ⟨true,1,lY G cnt cnt⟩/\st.get ⟨240017000,st_b.next+1+1⟩=some ⟨true,mI.pq,kQ x L⟩/\(st_b.next+3<=st.next/\tY st.get G cnt px)/\((x=0/\env 11=.cq)∨∃o:Id,env 11=.own o 0 (leads x L).length/\FD st.get o (jM x L) st.next)) (cnt) ⟨0,by omega,by omega,sl (tw @tZ (tw @bg0 (tw @b0 (tw @b1 (tw @b5 (tw @xS (tw @tr @l0))))))),sl (tw @tZ (tw @bg0 (tw @b0 (tw @b1 (tw @b5 (tw @xS (tw @tr @l0))))))),sl (tw @tZ (tw @bg0 (tw @b0 (tw @b1 (tw @b5 (tw @xS (tw @tr @l0))))))),⟨by(try dsimp only);omega,R3.frame fun k hk=>by(have gW:=K1 k 240017000 (st_b.next+1+1) (by decide));simp only[go_sem, ↓reduceIte,Nat.reduceEqDiff,Nat.reduceAdd,Nat.reduceSub,Nat.reduceLeDiff,reduceCtorEq,gW]⟩,.inl ⟨rfl,sd @Nat.zero_add⟩⟩ ?_
 rintro n_c env_c st_c ⟨x,rfl,cle,c81,cg0,cg1,cI0,cI1⟩ cfr
 have zi:=cfr 12 (by kernel_rfl);have KM:=cfr 79 (by kernel_rfl);have KN:=cfr 80 (by kernel_rfl)
 simp only[go_sem, ↓reduceIte,Nat.reduceEqDiff,Nat.reduceAdd,Nat.reduceSub,Nat.reduceLeDiff,reduceCtorEq,tZ,bg0,b0,b1,b5,xS,tr,l0]at zi KM KN
 clear cfr
 obtain⟨qx,P6⟩:=cI0
 have NO:∀j v,(G j=(⟨240017000,v⟩:Id))=False:=fun j v=>K1 j _ v (by decide)
 have NK:∀j v,(G j=(⟨240025002,v⟩:Id))=False:=fun j v=>K1 j _ v (by decide)
 have NM:∀j v,(G j=(⟨240025001,v⟩:Id))=False:=fun j v=>K1 j _ v (by decide)
 have NN:∀j v,(G j=(⟨240026007,v⟩:Id))=False:=fun j v=>K1 j _ v (by decide)
 have NL:∀j v,(G j=(⟨240026008,v⟩:Id))=False:=fun j v=>K1 j _ v (by decide)
 by_cases hx:(x:Int)<(cnt:Int)
 ·have ig:∀{e:Env} {gg:Rows} {nx:Nat},(e 81=.int .i64 (IntKind.i64.wrap ((x:Int)+1)))->(gg ⟨240001001,n0+1⟩=some ⟨true,1,lY G cnt cnt⟩)->(gg ⟨240017000,st_b.next+1+1⟩=some ⟨true,mI.pq,kQ (x+1) L⟩)->(st_b.next+3<=nx/\tY gg G cnt px)->(((x+1)=0/\e 11=.cq)∨∃o:Id,e 11=.own o 0 (leads (x+1) L).length/\FD gg o (jM (x+1) L) nx)->∃m0,m0<(cnt)-x/\∃x:Nat,m0=(cnt)-x/\x<=(cnt)/\e 81=.int .i64 (x:Int)/\gg ⟨240001001,n0+1⟩=some ⟨true,1,lY G cnt cnt⟩/\gg ⟨240017000,st_b.next+1+1⟩=some ⟨true,mI.pq,kQ x L⟩/\(st_b.next+3<=nx/\tY gg G cnt px)/\((x=0/\e 11=.cq)∨∃o:Id,e 11=.own o 0 (leads x L).length/\FD gg o (jM x L) nx):=fun x1 x2 x3 x4 x5=>⟨_,by omega,x+1,rfl,by omega,(by rw[x1,az (by omega)]),x2,x3,x4,x5⟩
  have PQ:x<cnt:=by omega
  have gX:=wW (G:=G) PQ
  have hlx:L x<cnt:=Nat.lt_of_le_of_lt (hL.le _) PQ
  have ra:=P6 _ hlx
  rw[lz (Kx.root hL hlx (hL.idem _))]at ra
  have lE:=jP x L
  (try((repeat(revert hN;revert N;apply Pn.out));refine wk (tw @c81 (tw @cg0 (tw @cg1 (tw @zi (tw @KM (tw @KN (tw @hx (tw @gX @tl)))))))) ?_;(repeat(refine Pn.mk ?_;intro N hN))))
  refine .inr (aJ _ _ _ _ _ (fun r σ1 hq=>?_) (zr G cnt px L Kx x PQ _ (P6.frame fun k hk=>sd @Nat.zero_add)))
  obtain⟨g1,x1⟩:=σ1
  obtain⟨rfl,AE,Gc⟩:=hq
  (try dsimp only at AE Gc)
  subst AE
  refine hN _ _ ?_
  clear hN N
  by_cases hr:L x=x
  ·rw[hr]at ra ⊢
   have l7:=Gu hr
   have Sx:(leads (x+1) L).length=(leads x L).length+1:=by rw[gQ,if_pos hr];simp
   have PK:=DF hr
   have Sr:=Dc hL hr
   rcases cI1 with⟨rfl,nK⟩|⟨o,nK,cS⟩
   ·have UD:kQ 1 L=[[.int .i64 ((0:Nat):Int),.int .i64 ((0:Nat):Int)]]:=PK
    (try((repeat(revert hN;revert N;apply Pn.out));refine wk (tw @c81 (tw @cg0 (tw @cg1 (tw @zi (tw @KM (tw @KN (tw @nK (tw @ra (tw @l7 (tw @l0 (tw @oS (tw @oT (tw @Bool.not_false @Bool.not_true))))))))))))) ?_;(repeat(refine Pn.mk ?_;intro N hN))))
    refine ig ?_ ?_ ?_ (by(try dsimp only);exact⟨by omega,P6.frame fun k hk=>sd (tw @NO (tw @NK (tw @NL (tw @NM @NN))))⟩) (.inr ⟨⟨240025002,x1+1+1+1+1⟩,by simp only[go_sem, ↓reduceIte,Nat.reduceEqDiff,Nat.reduceAdd,Nat.reduceSub,Nat.reduceLeDiff,reduceCtorEq,Sx];rfl,by rw[Sr];exact KZ (v':=x1+1+1+1+1+1) (sd @Nat.zero_add) (sd @eN.eq_1) (by(try dsimp only);omega) (by(try dsimp only);omega)⟩)
    all_goals simp only[go_sem, ↓reduceIte,Nat.reduceEqDiff,Nat.reduceAdd,Nat.reduceSub,Nat.reduceLeDiff,reduceCtorEq,c81,cg0,cg1,zi,KM,KN,UD]
   ·obtain⟨rows,rC,sn,ki⟩:=cS.new x
    rw[qt]at sn
    have xz:o.site=240025002:=by obtain⟨_,_,_,_,_,_,h,_⟩:=cS;exact h
    have uF:o.bP<x1:=by obtain⟨_,_,_,_,_,_,_,h⟩:=cS;omega
    have so:=dw uF
    have QS:=gU (o:=o) xz (b:=240017000) (v:=st_b.next+1+1) (by decide)
    have PE:=gU (o:=o) xz (b:=240001001) (v:=n0+1) (by decide)
    have NP:∀k,(G k=o)=False:=fun k=>by simp only[eq_iff_iff,iff_false];intro h;have h1:=R4 k;rw[h,xz]at h1;cases h1
    have sO:(rows++[[AV.cq]])[(leads x L).length]? =some [.cq]:=by rw[<-sn];simp
    have CF:∀a:List AV,(rows++[[AV.cq]]).set (leads x L).length a=rows++[a]:=fun a=>by rw[<-sn];simp
    have e1:(leads x L).length+1<=16777216:=by omega
    have e2:((leads x L).length:Int)<(((leads x L).length+1:Nat):Int):=by omega
    (try((repeat(revert hN;revert N;apply Pn.out));refine wk (tw @c81 (tw @cg0 (tw @cg1 (tw @zi (tw @KM (tw @KN (tw @nK (tw @ra (tw @l7 (tw @rC (tw @sn (tw @so (tw @QS (tw @sO (tw @CF (tw @e1 (tw @e2 (tw @oS (tw @oT (tw @Bool.not_false @Bool.not_true)))))))))))))))))))) ?_;(repeat(refine Pn.mk ?_;intro N hN))))
    refine ig ?_ ?_ ?_ (by(try dsimp only);exact⟨by omega,P6.frame fun k hk=>sd (tw @NO (tw @NK (tw @NL (tw @NM (tw @NN @NP)))))⟩) (.inr ⟨⟨240025002,x1+1+1+1+1⟩,sd @Sx,by rw[Sr];exact ki _ _ (x1+1+1+1+1+1) _ (by omega) (by(try dsimp only);omega) (by(try dsimp only);omega) (sd @CF) (sd @eN.eq_1) (fun j hj hv=>by
     have q1:=dw (i:=j) (n:=x1) (by omega)
     have q2:=gU hj (b:=240017000) (v:=st_b.next+1+1) (by decide)
     have q3:(j=o)=False:=by simp only[eq_iff_iff,iff_false];intro h;rw[h,xz]at hj;cases hj
     simp only[go_sem, ↓reduceIte,Nat.reduceEqDiff,Nat.reduceAdd,Nat.reduceSub,Nat.reduceLeDiff,reduceCtorEq,q1,q2,q3])⟩)
    all_goals simp only[go_sem, ↓reduceIte,Nat.reduceEqDiff,Nat.reduceAdd,Nat.reduceSub,Nat.reduceLeDiff,reduceCtorEq,c81,cg0,cg1,zi,KM,KN,PK,so,QS,PE]
  ·obtain⟨l7,IK,dQ⟩:=yD hL hr
   obtain⟨QG,Sr⟩:=Dd hL hr
   have Sx:(leads (x+1) L).length=(leads x L).length:=by rw[gQ,if_neg hr];simp
   have Ln:=DE hr
   rcases cI1 with⟨rfl,nK⟩|⟨o,nK,cS⟩
   ·exact absurd (Nat.le_zero.1 (hL.le 0)) hr
   ·obtain⟨rows,id,rC,sn,hrk,hid,Iz,hidv,TL⟩:=cS.add QG x
    rw[qt]at sn
    have xz:o.site=240025002:=by obtain⟨_,_,_,_,_,_,h,_⟩:=cS;exact h
    have uF:o.bP<x1:=by obtain⟨_,_,_,_,_,_,_,h⟩:=cS;omega
    have so:=dw uF
    have ym:=dw (i:=id) (n:=x1) (by omega)
    have j6:(bJ L x:Int)<((leads x L).length:Int):=by omega
    have QP:=BU x L (L x)
    have hma:((members x L (L x)).map eN).length=(members x L (L x)).length:=by simp
    have e1:(members x L (L x)).length+1<=16777216:=by omega
    have PF:(o=id)=False:=by simp only[eq_iff_iff,iff_false];rintro rfl;rw[Iz]at xz;cases xz
    have Pz:(id=o)=False:=by simp only[eq_iff_iff,iff_false];rintro rfl;rw[Iz]at xz;cases xz
    have QS:=gU (o:=o) xz (b:=240017000) (v:=st_b.next+1+1) (by decide)
    have PE:=gU (o:=o) xz (b:=240001001) (v:=n0+1) (by decide)
    have hiM:=gU (o:=id) Iz (b:=240017000) (v:=st_b.next+1+1) (by decide)
    have hiT:=gU (o:=id) Iz (b:=240001001) (v:=n0+1) (by decide)
    have NP:∀k,(G k=o)=False:=fun k=>by simp only[eq_iff_iff,iff_false];intro h;have h1:=R4 k;rw[h,xz]at h1;cases h1
    have Tt:∀k,(G k=id)=False:=fun k=>by simp only[eq_iff_iff,iff_false];intro h;have h1:=R4 k;rw[h,Iz]at h1;cases h1
    (try((repeat(revert hN;revert N;apply Pn.out));refine wk (tw @c81 (tw @cg0 (tw @cg1 (tw @zi (tw @KM (tw @KN (tw @nK (tw @ra (tw @l7 (tw @IK (tw @rC (tw @sn (tw @hrk (tw @hid (tw @so (tw @ym (tw @j6 (tw @hma (tw @e1 (tw @PF (tw @Pz (tw @QS (tw @PE (tw @hiM (tw @hiT (tw @oS (tw @oT (tw @Bool.not_false @Bool.not_true)))))))))))))))))))))))))))) ?_;(repeat(refine Pn.mk ?_;intro N hN))))
    refine ig ?_ ?_ ?_ (by(try dsimp only);exact⟨by omega,P6.frame fun k hk=>sd (tw @NO (tw @NK (tw @NL (tw @NM (tw @NN (tw @NP @Tt))))))⟩) (.inr ⟨o,sd (tw @Sx @nK),by rw[Sr];exact TL _ (x1+1+1) _ (by omega) (by(try dsimp only);omega) (sd @Nat.zero_add) (sd (tw @so (tw @ym (tw @PF @Pz)))) (fun j hj hv mK=>by
     have q1:=dw (i:=j) (n:=x1) (by omega)
     have q2:=gU hj (b:=240017000) (v:=st_b.next+1+1) (by decide)
     have q3:(j=o)=False:=by simp only[eq_iff_iff,iff_false];intro h;rw[h,xz]at hj;cases hj
     simp only[go_sem, ↓reduceIte,Nat.reduceEqDiff,Nat.reduceAdd,Nat.reduceSub,Nat.reduceLeDiff,reduceCtorEq,q1,q2,q3,mK])⟩)
    all_goals simp only[go_sem, ↓reduceIte,Nat.reduceEqDiff,Nat.reduceAdd,Nat.reduceSub,Nat.reduceLeDiff,reduceCtorEq,c81,cg0,cg1,zi,KM,KN,Ln,so,ym,QS,PE,hiM,hiT]
 have UL:x=cnt:=by omega
 rcases cI1 with⟨h0,_⟩|⟨o,nK,rows,ids,rC,hR,_,_,_,_⟩
 ·omega
 have sn:=hR.len
 rw[qt]at sn
 (try((repeat(revert hN;revert N;apply Pn.out));refine wk (tw @c81 (tw @cg0 (tw @cg1 (tw @zi (tw @KM (tw @KN (tw @hx (tw @nK @rC)))))))) ?_;(repeat(refine Pn.mk ?_;intro N hN))))
 refine wM (.inl rfl) (by simp only[go_sem, ↓reduceIte,Nat.reduceEqDiff,Nat.reduceAdd,Nat.reduceSub,Nat.reduceLeDiff,reduceCtorEq];rfl) ?_
 rw[uz rC (by omega) (rows':=(fx cnt L).map AA) (by
  rw[List.drop_zero,List.take_of_length_le (by omega)]
  rw[UL]at hR;exact Ja 3 hR)]
end Go.Proofs.YtgoelphibofcmaaGreat.V

namespace Go.Proofs.YtgoelphibofcmaaGreat.V
open Go.RowKit
attribute [local irreducible] dI wpOps gD Call
attribute [local go_sem] aM fM eP gp gm cN upd cD K.av cR AV.cells AV.cell rowOf rowsOf part ld rowAt bz cu dG ef ik bQ dh eA gj e9 dq ek dd dc dU dV bW bf cW bV cY cX ei eo ej cV ck de eh bU aT da cG ij bx cQ b4 aY dn bc dH AV.undef bF bI eb ee dP dM cJ ez eE cF er ep cZ db List.getD_cons_zero List.getD_cons_succ List.getD_nil List.all_cons List.all_nil Bool.and_true Bool.true_and Bool.and_self Bool.not_true Bool.not_false Option.map_some Option.map_none Option.bind_some Option.bind_none List.length_cons List.length_nil List.take_succ_cons List.take_zero List.take_nil List.drop_succ_cons List.drop_zero List.drop_nil List.head?_cons List.map_cons List.map_nil List.getElem?_cons_zero List.getElem?_cons_succ List.cons_append List.nil_append List.append_nil List.length_map List.set_cons_zero List.set_cons_succ Nat.reduceMul eq_self Int.toNat_natCast Int.natCast_nonneg and_self true_and and_true decide_true decide_false Bool.false_eq_true Nat.zero_add Nat.add_zero List.contains_cons List.contains_nil Bool.or_false Bool.false_or beq_self_eq_true Nat.reduceBEq ne_eq not_true_eq_false not_false_eq_true Id.mk.injEq false_and and_false Nat.reduceLT Int.reduceLE Int.reduceLT Int.reduceToNat Int.reduceNeg Int.reduceAdd Nat.le_refl List.length_append beq_true beq_false Bool.not_eq_eq_eq_not or_false false_or dO ai aj aH bp bE cz aX bl aW bj cU bH
theorem Kf (b:PB) (t:Int):aq Tryz.prog 243 [.agg (ay b),.di [.int .i64 t]] (.bool (decide (b.s<t))):=by
 refine aq.body eB rfl fun hl n0=>?_
 clear hl
 (try((repeat(revert hN;revert N;apply Pn.out));refine wk @ay.eq_1 ?_;(repeat(refine Pn.mk ?_;intro N hN))))
 exact aU (b:=decide (b.s<t)) (.inl rfl) (sd @Nat.zero_add) rfl
theorem yq (bs:List PB) (t:Int) (hl:bs.length<=1048576):aq Tryz.prog 263 [.sl (bs.map ay),.fn 243 [.di [.int .i64 t]]] (.int .i64 (kg (fun b:PB=>decide (b.s<t)) bs)):=
 tK H0 (show l5 Tryz.prog 263=some (sS 263 3 true) by kernel_rfl) bs hl 243 _ _ (fun x _=>Kf x t) fun g=>by simp only[ai,aj,aW,Option.map_some]
theorem HW (bs:List PB) (hp:0<bs.length) (hl:bs.length<=1048576) (σ:ar):
  Call Tryz.prog 242 [.sl (bs.map ay)] σ fun r σ'=>∃o:Id,r=.own o 0 bs.length/\σ'.get o=some ⟨true,3,bs.map ay⟩/\σ.next<=o.bP/\o.bP<σ'.next/\∀i:Id,i.bP<σ.next->σ'.get i=σ.get i:=by
 refine eT eB rfl fun hl=>?_
 clear hl
 have hz:=all_map (l:=bs) M3
 obtain⟨b,r,rfl⟩:∃b r,bs=b::r:=by
  cases bs with
  |nil=>simp at hp
  |cons b r=>exact⟨b,r,rfl⟩
 have lE:(List.map ay (b::r)).length=(b::r).length:=by simp
 have e1:r.length<=16777215:=by simp at hl;omega
 rw[List.map_cons]at hz lE ⊢
 (try((repeat(revert hN;revert N;apply Pn.out));refine wk (tw @hz (tw @lE @e1)) ?_;(repeat(refine Pn.mk ?_;intro N hN))))
 refine fw (.inl rfl) (vs:=[.own ⟨242003002,σ.next+1+1⟩ 0 (b::r).length]) (by simp only[fq,iq,go_sem, ↓reduceIte,Nat.reduceEqDiff,Nat.reduceAdd,Nat.reduceSub,Nat.reduceLeDiff,reduceCtorEq,List.length_cons]) ⟨⟨242003002,σ.next+1+1⟩,rfl,sd @Nat.zero_add,by(try dsimp only);omega,by(try dsimp only);omega,fun i hi=>?_⟩
 have hv:=dw hi
 simp only[go_sem, ↓reduceIte,Nat.reduceEqDiff,Nat.reduceAdd,Nat.reduceSub,Nat.reduceLeDiff,reduceCtorEq,hv]
theorem oZ {t:Int} {bs:List PB} {j:Nat} (hj:j<bs.length):aL t (bs.take (j+1))=aL t (bs.take j)++if decide (bs[j].s<t)=true then[]else[bs[j]]:=by
 rw[tV t bs j hj]
 congr 1
 by_cases h:bs[j].s<t
 ·rw[if_neg (by omega),if_pos (decide_eq_true h)]
 ·rw[if_pos (by omega),if_neg (by simp only[decide_eq_true_eq];exact h)]
theorem tU {t:Int} {bs:List PB} (h:∀b∈bs,¬b.s<t):aL t bs=bs:=by
 unfold aL
 rw[List.filter_eq_self]
 intro b hb
 have:=h b hb
 exact decide_eq_true (by omega)
structure tX (t:Int) (bs:List PB) (j:Nat) (R:List PB):Prop where
 len:R.length=bs.length
 pre:R.take (aL t (bs.take j)).length=aL t (bs.take j)
 post:∀x,j<=x->R[x]? =bs[x]?
 lt:(aL t (bs.take j)).length<j
theorem tX.start {t:Int} {bs:List PB} {i:Nat} (hi:i<bs.length) (hw:bs[i].s<t) (hp:∀x (h:x<i),¬bs[x].s<t):tX t bs (i+1) bs/\(aL t (bs.take (i+1))).length=i:=by
 have h1:aL t (bs.take i)=bs.take i:=tU fun b hb=>by
  obtain⟨x,hx,rfl⟩:=List.getElem_of_mem hb
  rw[List.length_take]at hx
  rw[List.getElem_take]
  exact hp x (by omega)
 have h2:aL t (bs.take (i+1))=bs.take i:=by rw[oZ hi,if_pos (decide_eq_true hw),List.append_nil,h1]
 have h3:(bs.take i).length=i:=by rw[List.length_take];omega
 exact⟨⟨rfl,by rw[h2,h3],fun _ _=>rfl,by rw[h2,h3];omega⟩,by rw[h2,h3]⟩
theorem tX.RD {t:Int} {bs R:List PB} {j:Nat} (h:tX t bs j R) (hj:j<bs.length) (hw:bs[j].s<t):tX t bs (j+1) R/\(aL t (bs.take (j+1))).length=(aL t (bs.take j)).length:=by
 have h2:aL t (bs.take (j+1))=aL t (bs.take j):=by rw[oZ hj,if_pos (decide_eq_true hw),List.append_nil]
 exact⟨⟨h.len,by rw[h2];exact h.pre,fun x hx=>h.post x (by omega),by rw[h2];have:=h.lt;omega⟩,by rw[h2]⟩
theorem tX.qD {t:Int} {bs R:List PB} {j:Nat} (h:tX t bs j R) (hj:j<bs.length) (hw:¬bs[j].s<t):tX t bs (j+1) (R.set (aL t (bs.take j)).length bs[j])/\(aL t (bs.take (j+1))).length=(aL t (bs.take j)).length+1:=by
 have h2:aL t (bs.take (j+1))=aL t (bs.take j)++[bs[j]]:=by rw[oZ hj,if_neg (by simp only[decide_eq_true_eq];exact hw)]
 have dQ:=h.lt
 have hlen:=h.len
 have ui:=h.pre
 generalize hc:(aL t (bs.take j)).length=c at *
 refine⟨⟨by rw[List.length_set];exact hlen,?_,fun x hx=>?_,by rw[h2,List.length_append,hc];simp;omega⟩,by rw[h2,List.length_append,hc];rfl⟩
 ·rw[h2,List.length_append,hc,List.length_singleton,List.take_succ_eq_append_getElem (by rw[List.length_set];omega),List.getElem_set_self,List.take_set_of_le (Nat.le_refl _),ui]
 ·rw[List.getElem?_set_ne (by omega)];exact h.post x (by omega)
theorem tX.at_ {t:Int} {bs R:List PB} {j:Nat} (h:tX t bs j R) (hj:j<bs.length):(R.map ay)[j]? =some (ay bs[j]):=by
 rw[List.getElem?_map,h.post j (Nat.le_refl j),List.getElem?_eq_getElem hj];rfl
theorem C4 {p:PB->Bool} {bs:List PB} (h:¬0<=kg p bs):∀b∈bs,p b=false:=by
 intro b hb
 unfold kg at h
 split at h
 ·omega
 ·rename_i h1
  rw[List.findIdx_lt_length]at h1
  cases hp:p b
  ·rfl
  ·exact absurd ⟨b,hb,hp⟩ h1
theorem C5 {p:PB->Bool} {bs:List PB} (h:0<=kg p bs):∃i,∃hi:i<bs.length,kg p bs=(i:Int)/\p bs[i]=true/\∀x (hx:x<i),p (bs[x]'(by omega))=false:=by
 unfold kg at h ⊢
 split
 ·rename_i h1
  exact⟨bs.findIdx p,h1,rfl,List.findIdx_getElem,fun x hx=>by simpa using List.not_of_lt_findIdx hx⟩
 ·rename_i h1;rw[if_neg h1]at h;omega
theorem FV (bs:List PB) (t:Int) (hl:bs.length<=1048576) (o T:Id) (σ:ar) (ho:σ.get o=some ⟨true,3,bs.map ay⟩) (hT:σ.get T=some ⟨true,1,[[.int .i64 t]]⟩) (uF:o.bP<σ.next) (Sb:T.bP<σ.next) (PE:o≠T):
  Call Tryz.prog 241 [.own o 0 bs.length,.fn 243 [.ptr T 0 0]] σ fun r σ'=>∃rows,r=.own o 0 (aL t bs).length/\σ'.get o=some ⟨true,3,rows⟩/\rows.take (aL t bs).length=(aL t bs).map ay/\(aL t bs).length<=rows.length/\σ.next<=σ'.next/\∀i:Id,i.bP<σ.next->i≠o->σ'.get i=σ.get i:=by
 refine eT eB rfl fun lj=>?_
 clear lj
 have Ga:=yq bs t hl
 have hzT:∀(g:Rows),g T=some ⟨true,1,[[.int .i64 t]]⟩->V.fz (dO g) 5 (.ptr T 0 0)=some (.di [.int .i64 t]):=fun g hg=>vK (sz:=1) (rows:=[[.int .i64 t]]) (by simp[dO,hg]) rfl (by simp only[List.drop_zero,ai,aj,aH,Option.map_some])
 have AG:∀(g:Rows),g T=some ⟨true,1,[[.int .i64 t]]⟩->g o=some ⟨true,3,bs.map ay⟩->cP (dO g) 6 [.own o 0 bs.length,.fn 243 [.ptr T 0 0]]=some [.sl (bs.map ay),.fn 243 [.di [.int .i64 t]]]:=fun g h1 h2=>by
  have q1:=gP (g:=dO g) (n:=5) (e:=ay) (sz:=3) (len:=bs.length) (l:=bs) (id:=o) (by simp[dO,h2]) rfl fun b=>zt _ 4 b
  have q2:=hzT g h1
  simp only[ai,aj,q1,cU,List.all_cons,List.all_nil,AV.cell,Bool.and_true,if_true,q2,Option.map_some]
 have lg:∀(g:Rows),g T=some ⟨true,1,[[.int .i64 t]]⟩->∀b:PB,cP (dO g) 6 [.agg (ay b),.ptr T 0 0]=some [.agg (ay b),.di [.int .i64 t]]:=fun g h1 b=>by
  have q3:V.fz (dO g) 6 (.ptr T 0 0)=some (.di [.int .i64 t]):=vK (sz:=1) (rows:=[[.int .i64 t]]) (by simp[dO,h1]) rfl (by simp only[List.drop_zero,ai,aj,aH,Option.map_some])
  simp only[ai,aj,bl,zt,q3,Option.map_some]
 (try((repeat(revert hN;revert N;apply Pn.out));refine wk @Nat.zero_add ?_;(repeat(refine Pn.mk ?_;intro N hN))))
 refine .inl ⟨_,aq.x Ga (AG _ hT ho),?_⟩
 refine hN _ _ ?_
 clear hN N
 by_cases h0:0<=kg (fun b:PB=>decide (b.s<t)) bs
 ·obtain⟨i,hi,Hl,hpi,Ll⟩:=C5 h0
  rw[Hl]at *
  have Lf:decide ((i:Int)= -1)=false:=decide_eq_false (by omega)
  have Q6:IntKind.i64.wrap ((i:Int)+1)=((i+1:Nat):Int):=az (by omega)
  obtain⟨dE,CF⟩:=tX.start (t:=t) hi (by simpa using hpi) (fun x hx=>by simpa using Ll x hx)
  (try((repeat(revert hN;revert N;apply Pn.out));refine wk (tw @Lf @Q6) ?_;(repeat(refine Pn.mk ?_;intro N hN))))
  refine aV (fun m env st=>∃(j:Nat) (R:List PB),m=bs.length-j/\env 6=.int .i64 (j:Int)/\env 5=.int .i64 ((aL t (bs.take j)).length:Int)/\st.get o=some ⟨true,3,R.map ay⟩/\tX t bs j R/\j<=bs.length/\σ.next<=st.next/\∀x:Id,x.bP<σ.next->(x=o)=False->st.get x=σ.get x) (bs.length-(i+1)) ⟨i+1,bs,rfl,sd @Q6,sd @CF,sd @ho,dE,by omega,by(try dsimp only);omega,fun x _ _=>sd @Nat.zero_add⟩ ?_
  rintro m env_b st_b ⟨j,R,rfl,b6,b5,bg,hD,gZ,hle,jB⟩ fW
  have b0:=fW 0 (by kernel_rfl)
  have b1:=fW 1 (by kernel_rfl)
  simp only[go_sem, ↓reduceIte,Nat.reduceEqDiff,Nat.reduceAdd,Nat.reduceSub,Nat.reduceLeDiff,reduceCtorEq]at b0 b1
  clear fW
  have bT:=(jB T Sb (by simp only[eq_iff_iff,iff_false];exact fun h=>PE h.symm)).trans hT
  have pP:=dw (i:=o) (n:=st_b.next) (by omega)
  have UH:=dw (i:=T) (n:=st_b.next) (by omega)
  have hRl:=hD.len
  have TD:(R.map ay).length=bs.length:=by rw[List.length_map,hRl]
  have dQ:=hD.lt
  by_cases hj:(j:Int)<(bs.length:Int)
  ·have iO:j<bs.length:=by omega
   have Hj:=hD.at_ iO
   have Oq:=Kf bs[j] t
   have SK:IntKind.i64.wrap ((j:Int)+1)=((j+1:Nat):Int):=az (by omega)
   have hD1:=hD.RD iO
   have hD2:=hD.qD iO
   generalize bs[j]=b at *
   (try((repeat(revert hN;revert N;apply Pn.out));refine wk (tw @b0 (tw @b1 (tw @b5 (tw @b6 (tw @bg (tw @hj (tw @Hj (tw @ay.eq_1 (tw @pP (tw @UH @TD)))))))))) ?_;(repeat(refine Pn.mk ?_;intro N hN))))
   refine .inl ⟨_,aq.x Oq (lg _ (sd (tw @UH @bT)) b),?_⟩
   refine hN _ _ ?_
   clear hN N
   by_cases hw:b.s<t
   ·obtain⟨Tq,Tp⟩:=hD1 hw
    have hd:decide (b.s<t)=true:=decide_eq_true hw
    (try((repeat(revert hN;revert N;apply Pn.out));refine wk (tw @b0 (tw @b1 (tw @b5 (tw @b6 (tw @hd @SK))))) ?_;(repeat(refine Pn.mk ?_;intro N hN))))
    refine⟨_,?_,j+1,R,rfl,sd @SK,sd (tw @b5 @Tp),sd (tw @bg @pP),Tq,by omega,by(try dsimp only);omega,fun x hx Hq=>?_⟩
    ·omega
    ·have PL:=dw (i:=x) (n:=st_b.next) (by omega)
     have:=jB x hx Hq
     simp only[go_sem, ↓reduceIte,Nat.reduceEqDiff,Nat.reduceAdd,Nat.reduceSub,Nat.reduceLeDiff,reduceCtorEq,PL,this]
   ·obtain⟨Tq,Tp⟩:=hD2 hw
    have hd:decide (b.s<t)=false:=decide_eq_false hw
    have TN:((aL t (bs.take j)).length:Int)<(bs.length:Int):=by omega
    have hwc:IntKind.i64.wrap (((aL t (bs.take j)).length:Int)+1)=(((aL t (bs.take j)).length+1:Nat):Int):=az (by omega)
    have eC:(R.map ay).set (aL t (bs.take j)).length [.int .i64 (b.a:Int),.int .i64 (b.b:Int),.int .i64 b.s]=(R.set (aL t (bs.take j)).length b).map ay:=by rw[List.map_set];rfl
    have Sq:∃y,(R.map ay)[(aL t (bs.take j)).length]? =some (ay y):=⟨R[(aL t (bs.take j)).length]'(by omega),by rw[List.getElem?_map,List.getElem?_eq_getElem (by omega)];rfl⟩
    obtain⟨y,Sq⟩:=Sq
    rw[ay]at Sq
    (try((repeat(revert hN;revert N;apply Pn.out));refine wk (tw @b0 (tw @b1 (tw @b5 (tw @b6 (tw @bg (tw @hd (tw @SK (tw @hwc (tw @TN (tw @eC (tw @Sq (tw @pP (tw @UH @TD))))))))))))) ?_;(repeat(refine Pn.mk ?_;intro N hN))))
    refine⟨_,?_,j+1,_,rfl,sd @SK,sd (tw @hwc @Tp),sd @eC,Tq,by omega,by(try dsimp only);omega,fun x hx Hq=>?_⟩
    ·omega
    ·have PL:=dw (i:=x) (n:=st_b.next) (by omega)
     have:=jB x hx Hq
     simp only[go_sem, ↓reduceIte,Nat.reduceEqDiff,Nat.reduceAdd,Nat.reduceSub,Nat.reduceLeDiff,reduceCtorEq,PL,this,Hq]
  ·have gZ:j=bs.length:=by omega
   subst gZ
   have ui:=hD.pre
   rw[List.take_length]at b5 dQ ui
   have TN:((aL t bs).length:Int)<=(bs.length:Int):=by omega
   have Sh:(aL t bs).length<=bs.length:=by omega
   have qy:(aL t bs).length+(bs.length-(aL t bs).length)=bs.length:=by omega
   have CF:=np t bs
   (try((repeat(revert hN;revert N;apply Pn.out));refine wk (tw @b0 (tw @b1 (tw @b5 (tw @b6 (tw @bg (tw @hj (tw @TD (tw @TN (tw @Sh (tw @qy (tw @Nat.le_refl (tw @Nat.sub_zero (tw @Int.le_refl @pP))))))))))))) ?_;(repeat(refine Pn.mk ?_;intro N hN))))
   refine fw (.inl rfl) (vs:=[.own o 0 (aL t bs).length]) (sd @Nat.zero_add) ⟨_,rfl,by simp only[go_sem, ↓reduceIte,Nat.reduceEqDiff,Nat.reduceAdd,Nat.reduceSub,Nat.reduceLeDiff,reduceCtorEq];rfl,?_,?_,by(try dsimp only);omega,fun x hx Hq=>?_⟩
   ·have hm:List.take (aL t bs).length (List.map ay R)=(aL t bs).map ay:=by rw[<-List.map_take,ui]
    rw[hm,List.append_assoc,List.take_append_of_le_length (by simp),List.take_of_length_le (by simp)]
   ·have hm:List.take (aL t bs).length (List.map ay R)=(aL t bs).map ay:=by rw[<-List.map_take,ui]
    rw[hm]
    simp only[List.length_append,List.length_map]
    omega
   ·have Q7:(x=o)=False:=by simp only[eq_iff_iff,iff_false];exact Hq
    have:=jB x hx Q7
    simp only[go_sem, ↓reduceIte,Nat.reduceEqDiff,Nat.reduceAdd,Nat.reduceSub,Nat.reduceLeDiff,reduceCtorEq,Q7,this]
 ·have hn:=C4 h0
  have dE:=tU (t:=t) (bs:=bs) fun b hb=>by simpa using hn b hb
  have hd:decide (kg (fun b:PB=>decide (b.s<t)) bs= -1)=true:=decide_eq_true (by
   unfold kg at h0 ⊢
   split
   ·rename_i h;rw[if_pos h]at h0;omega
   ·rfl)
  (try((repeat(revert hN;revert N;apply Pn.out));refine wk @hd ?_;(repeat(refine Pn.mk ?_;intro N hN))))
  refine fw (.inl rfl) (vs:=[.own o 0 bs.length]) (sd @Nat.zero_add) ⟨bs.map ay,by rw[dE];rfl,sd @ho,by rw[dE,List.take_of_length_le (by simp)],by rw[dE];simp,by(try dsimp only);omega,fun x _ _=>rfl⟩
end Go.Proofs.YtgoelphibofcmaaGreat.V

namespace Go.Proofs.YtgoelphibofcmaaGreat.V
open Go.RowKit
attribute [local irreducible] dI wpOps gD Call
attribute [local go_sem] aM fM eP gp gm cN upd cD K.av cR AV.cells AV.cell rowOf rowsOf part ld rowAt bz cu dG ef ik bQ dh eA gj e9 dq ek dd dc dU dV bW bf cW bV cY cX ei eo ej cV ck de eh bU aT da cG ij bx cQ b4 aY dn bc dH AV.undef bF bI eb ee dP dM cJ ez eE cF er ep cZ db List.getD_cons_zero List.getD_cons_succ List.getD_nil List.all_cons List.all_nil Bool.and_true Bool.true_and Bool.and_self Bool.not_true Bool.not_false Option.map_some Option.map_none Option.bind_some Option.bind_none List.length_cons List.length_nil List.take_succ_cons List.take_zero List.take_nil List.drop_succ_cons List.drop_zero List.drop_nil List.head?_cons List.map_cons List.map_nil List.getElem?_cons_zero List.getElem?_cons_succ List.cons_append List.nil_append List.append_nil List.length_map List.set_cons_zero List.set_cons_succ Nat.reduceMul eq_self Int.toNat_natCast Int.natCast_nonneg and_self true_and and_true decide_true decide_false Bool.false_eq_true Nat.zero_add Nat.add_zero List.contains_cons List.contains_nil Bool.or_false Bool.false_or beq_self_eq_true Nat.reduceBEq ne_eq not_true_eq_false not_false_eq_true Id.mk.injEq false_and and_false Nat.reduceLT Int.reduceLE Int.reduceLT Int.reduceToNat Int.reduceNeg Int.reduceAdd Nat.le_refl List.length_append beq_true beq_false Bool.not_eq_eq_eq_not or_false false_or dO ai aj aH bp bE cz aX bl aW bj cU bH
end Go.Proofs.YtgoelphibofcmaaGreat.V

namespace Go.Proofs.YtgoelphibofcmaaGreat.V
open Go.RowKit
attribute [local irreducible] dI wpOps gD Call
attribute [local go_sem] aM fM eP gp gm cN upd cD K.av cR AV.cells AV.cell rowOf rowsOf part ld rowAt bz cu dG ef ik bQ dh eA gj e9 dq ek dd dc dU dV bW bf cW bV cY cX ei eo ej cV ck de eh bU aT da cG ij bx cQ b4 aY dn bc dH AV.undef bF bI eb ee dP dM cJ ez eE cF er ep cZ db List.getD_cons_zero List.getD_cons_succ List.getD_nil List.all_cons List.all_nil Bool.and_true Bool.true_and Bool.and_self Bool.not_true Bool.not_false Option.map_some Option.map_none Option.bind_some Option.bind_none List.length_cons List.length_nil List.take_succ_cons List.take_zero List.take_nil List.drop_succ_cons List.drop_zero List.drop_nil List.head?_cons List.map_cons List.map_nil List.getElem?_cons_zero List.getElem?_cons_succ List.cons_append List.nil_append List.append_nil List.length_map List.set_cons_zero List.set_cons_succ Nat.reduceMul eq_self Int.toNat_natCast Int.natCast_nonneg and_self true_and and_true decide_true decide_false Bool.false_eq_true Nat.zero_add Nat.add_zero List.contains_cons List.contains_nil Bool.or_false Bool.false_or beq_self_eq_true Nat.reduceBEq ne_eq not_true_eq_false not_false_eq_true Id.mk.injEq false_and and_false Nat.reduceLT Int.reduceLE Int.reduceLT Int.reduceToNat Int.reduceNeg Int.reduceAdd Nat.le_refl List.length_append beq_true beq_false Bool.not_eq_eq_eq_not or_false false_or dO ai aj aH bp bE cz aX bl aW bj cU bH
end Go.Proofs.YtgoelphibofcmaaGreat.V

namespace Go.Proofs.YtgoelphibofcmaaGreat.V
open Go.RowKit Go.Shelf
attribute [local go_sem] Oper.semAt_some
structure pJ (W:World) (v:Value) (l:List ad):Prop where
 sl:∃A c,v=.slice A l.length c/\(l.length<=c/\c<=maxLen)/\(l=[]∨∃b o,A=some ⟨b,o,none⟩/\∀i,i<l.length->W.cell? ⟨b,o+(i*3+0),none⟩=some (.int .i64 (aI l i).aO.eY)/\W.cell? ⟨b,o+(i*3+1),none⟩=some (.int .i64 (aI l i).aO.eS)/\W.cell? ⟨b,o+(i*3+2),none⟩=some (.int .i64 (aI l i).aQ))
structure Hz (K:World->World->Prop) (v:Value) (l:List ad):Prop where
 refl:∀W,K W W
 trans:∀{A B C:World},K A B->K B C->K A C
 of:∀{W W':World},Below W.heap.size W W'->K W W'
 size:∀{W W':World},K W W'->W.heap.size<=W'.heap.size
 typed:∀{W W':World},K W W'->∀(b:Nat) (cells:Array Value) (T:TypeId) (fr:Nat×Nat),W.heap[b]? =some (Obj.cells cells T fr)->T≠226->T≠246->W'.heap[b]? =W.heap[b]?
 pl:∀{W W':World},K W W'->pJ W v l->pJ W' v l
theorem uu {W:World} {b x:Nat} {v:Value} (h:W.cell? ⟨b,x,none⟩=some v):b<W.heap.size:=by
 rcases Nat.lt_or_ge b W.heap.size with h1|h1
 ·exact h1
 ·simp[World.cell?,Array.getElem?_eq_none h1]at h
theorem pJ.below {W W':World} {v:Value} {l:List ad} (h:pJ W v l) (k:Below W.heap.size W W'):pJ W' v l:=by
 obtain⟨A,c,rfl,hm,hc⟩:=h.sl
 refine⟨A,c,rfl,hm,?_⟩
 rcases hc with h0|⟨b,o,rfl,kn⟩
 ·exact .inl h0
 ·refine .inr ⟨b,o,rfl,fun i hi=>?_⟩
  obtain⟨h1,h2,h3⟩:=kn i hi
  have hb:=uu h1
  exact⟨(k.cell (p:=⟨b,_,none⟩) hb).trans h1,(k.cell (p:=⟨b,_,none⟩) hb).trans h2,(k.cell (p:=⟨b,_,none⟩) hb).trans h3⟩
theorem pJ.eL {P:Program} {W:World} {v:Value} {l:List ad} (h:pJ W v l):jG P W (fun b=>b<W.heap.size) (.sl (l.map aa)) v:=by
 obtain⟨A,c,rfl,hm,hc⟩:=h.sl
 rcases hc with rfl|⟨b,o,rfl,kn⟩
 ·exact .AH A c (by simpa using hm.2)
 by_cases MF:l=[]
 ·subst MF;exact .AH _ c (by simpa using hm.2)
 ·have kj:0<l.length:=List.length_pos_iff.2 MF
  have hb:=uu (kn 0 kj).1
  refine .sl (l.map aa) b o l.length c 3 (fun i j=>if j=0 then .int .i64 (aI l i).aO.eY else if j=1 then .int .i64 (aI l i).aO.eS else .int .i64 (aI l i).aQ) (by simp) hm.1 hm.2 hb (fun cs dt=>?_) (fun cs dt a ha=>?_) (fun i j hi hj=>?_) (fun i j cs a hi hj=>?_)
  ·obtain⟨x,_,rfl⟩:=List.mem_map.1 dt;rfl
  ·obtain⟨x,_,rfl⟩:=List.mem_map.1 dt
   simp[aa]at ha
   rcases ha with rfl|rfl|rfl<;>rfl
  ·obtain⟨h1,h2,h3⟩:=kn i hi
   match j,hj with
   |0,_=>exact h1
   |1,_=>exact h2
   |2,_=>exact h3
   |j+3,hj=>omega
  ·have lD:i<l.length:=by have:=(List.getElem?_eq_some_iff.1 hi).1;simpa using this
   rw[fu lD]at hi
   injection hi with hi
   subst hi
   match j,hj with
   |0,hj=>simp[aa]at hj;subst hj;exact .int _ _
   |1,hj=>simp[aa]at hj;subst hj;exact .int _ _
   |2,hj=>simp[aa]at hj;subst hj;exact .int _ _
   |j+3,hj=>simp[aa]at hj
theorem AX {P:Program} (hm:P.follows .mixedOrders=true) {f:Nat} {args:List AV} {vs:Array Value} {w:World} {r:AV} (h:aq P f args r) (hr:∀g r0,gu g 6 r0=some r->r0=r) (hA:fh P w (fun b=>b<w.heap.size) (fun _=>none) args vs):
  Calls P f vs w fun e w'=>∃D ι u,e=.returned u/\cH P w' D ι r u/\Below w.heap.size w w':=by
 have hs:=gn hm (h 0) w.heap.size (fun b=>b<w.heap.size) (fun _=>none) w vs ⟨Nat.le_refl _,fun _ h=>h,fun id r h=>(by cases h),fun id jW r r' B B' h=>(by cases h)⟩ (fun id h=>absurd rfl h) hA
 refine hs.mono ?_
 rintro e w' ⟨r0,g',n',D',ι',u,rfl,⟨r',hz,rfl⟩,dE,hsim,_,_,gJ⟩
 have:=hr _ _ hz
 subst this
 exact⟨D',ι',u,rfl,gJ,dE.below⟩
theorem oJ {g:Rows} {n:Nat} {a:AV} {k:IntKind} {m:Int} (h:gu g (n+1) a=some (.int k m)):a=.int k m:=by
 cases a<;>rw[gu]at h<;>simp_all
 all_goals (repeat' (split at h))<;>simp_all
theorem Db {g:Rows} {a:AV} {x y:Int} (h:gu g 6 a=some (.agg [.int .i64 x,.int .i64 y])):a=.agg [.int .i64 x,.int .i64 y]:=by
 cases a with
 |agg cs=>
  rw[ET]at h
  simp only[Option.map_eq_some_iff,AV.agg.injEq,exists_eq_right]at h
  match cs,h with
  |[],h=>rw[cE]at h;simp at h
  |[a],h=>
   rw[bD,cE]at h
   cases ha:gu g 5 a<;>simp[ha]at h
  |[a,b],h=>
   rw[bD,bD,cE]at h
   cases ha:gu g 5 a<;>cases hb:gu g 5 b<;>simp[ha,hb]at h
   obtain⟨rfl,rfl⟩:=h
   rw[oJ ha,oJ hb]
  |a::b::c::r,h=>
   rw[bD,bD,bD]at h
   cases ha:gu g 5 a<;>cases hb:gu g 5 b<;>cases hc:gu g 5 c<;>cases hd:ea g 5 r<;>simp[ha,hb,hc,hd]at h
 |_=>rw[gu]at h<;>simp_all<;>(repeat' (split at h))<;>simp_all
theorem Ec (W:World) (p:aD) (d:Int) (hd:jc d 0 3=true) (hx:iB p.eY) (hy:iB p.eS):Calls Tryz.prog 149 #[.agg #[.int .i64 p.eY,.int .i64 p.eS],.int .i64 d] W fun e W'=>e=.returned (.agg #[.int .i64 (dx p d).eY,.int .i64 (dx p d).eS])/\Below W.heap.size W W':=by
 refine(AX mixed (Ee p d hd hx hy) (fun g r0 h=>Db h) ?_:Calls _ _ _ _ _).mono ?_
 ·exact mu (vs:= #[.int .i64 d]) (.agg _ _ (fun j=>if j=0 then .int .i64 p.eY else .int .i64 p.eS) rfl (fun a ha=>by simp[ae]at ha;rcases ha with rfl|rfl<;>rfl) (fun j hj=>by match j,hj with|0,_=>rfl|1,_=>rfl|j+2,hj=>simp[ae]at hj;omega) (fun j a ha=>by match j,ha with|0,ha=>simp[ae]at ha;subst ha;exact .int _ _|1,ha=>simp[ae]at ha;subst ha;exact .int _ _|j+2,ha=>simp[ae]at ha)) (mu (vs:= #[]) (.int _ _) wI)
 ·rintro e W' ⟨D,ι,u,rfl,hr,hB⟩
  refine⟨?_,hB⟩
  obtain⟨vs,f,rfl,fj,_,h1,h2⟩:=iP hr
  have v0:=h1 0 (by simp[ae])
  have v1:=h1 1 (by simp[ae])
  rw[dp (h2 0 _ rfl)]at v0
  rw[dp (h2 1 _ rfl)]at v1
  obtain⟨vl⟩:=vs
  match vl,fj with
  |[a,b],_=>
   simp at v0 v1
   rw[v0,v1]
theorem xH (W:World) (l:List ad) (v:Value) (hP:pJ W v l) (p:aD) (hR:nG l) (F4:l.length<=1048576):Calls Tryz.prog 265 #[.agg #[v],.agg #[.int .i64 p.eY,.int .i64 p.eS]] W fun e W'=>e=.returned (.int .i64 (eD l p))/\Below W.heap.size W W':=by
 refine(AX mixed (GI l p hR F4) (fun g r0 h=>oJ h) ?_:Calls _ _ _ _ _).mono ?_
 ·exact mu (vs:= #[.agg #[.int .i64 p.eY,.int .i64 p.eS]]) (.agg _ _ (fun _=>v) rfl (fun a ha=>by simp at ha;rw[ha];rfl) (fun j hj=>by match j,hj with|0,_=>rfl|j+1,hj=>simp at hj) (fun j a ha=>by match j,ha with|0,ha=>simp at ha;subst ha;exact hP.eL|j+1,ha=>simp at ha)) (mu (vs:= #[]) (.agg _ _ (fun j=>if j=0 then .int .i64 p.eY else .int .i64 p.eS) rfl (fun a ha=>by simp[ae]at ha;rcases ha with rfl|rfl<;>rfl) (fun j hj=>by match j,hj with|0,_=>rfl|1,_=>rfl|j+2,hj=>simp[ae]at hj;omega) (fun j a ha=>by match j,ha with|0,ha=>simp[ae]at ha;subst ha;exact .int _ _|1,ha=>simp[ae]at ha;subst ha;exact .int _ _|j+2,ha=>simp[ae]at ha)) wI)
 ·rintro e W' ⟨D,ι,u,rfl,hr,hB⟩
  exact⟨by rw[dp hr],hB⟩
theorem grown_of {W W':World} (h:Below W.heap.size W W'):W.grownBy W' none:=⟨h.os,h.tape,h.output,h.size,fun k hk _=>h.block k hk⟩
def B4 (l:List ad) (i:Nat) (d:Int):List (Nat×Nat×Int):=if 0<=eD l (dx (aI l i).aO d)then[(i,(eD l (dx (aI l i).aO d)).toNat,d)]else[]
def kS (l:List ad) (i m:Nat):List (Nat×Nat×Int):=(List.range m).flatMap fun j:Nat=>B4 l i (1-(j:Int))
def lp (l:List ad) (n:Nat):List (Nat×Nat×Int):=(List.range n).flatMap fun i=>kS l i 2
theorem mo (l:List ad) (n:Nat):lp l (n+1)=lp l n++kS l n 2:=by simp[lp,List.range_succ]
theorem nf (l:List ad) (i m:Nat):kS l i (m+1)=kS l i m++B4 l i (1-(m:Int)):=by simp[kS,List.range_succ]
theorem OC (l:List ad) {k m:Nat} (hk:k<l.length) (hm:m<=2):lp l k++kS l k m <+:lp l l.length:=by
 have h1:∀d,lp l k <+:lp l (k+d):=fun d=>by
  induction d with
  |zero=>exact List.prefix_refl _
  |succ d ih=>rw[<-Nat.add_assoc,mo l (k+d)];exact ih.trans (List.prefix_append _ _)
 have h2:∀d,lp l (k+1) <+:lp l (k+1+d):=fun d=>by
  induction d with
  |zero=>exact List.prefix_refl _
  |succ d ih=>rw[<-Nat.add_assoc,mo l (k+1+d)];exact ih.trans (List.prefix_append _ _)
 have h3:=h2 (l.length-(k+1))
 rw[show k+1+(l.length-(k+1))=l.length by omega,mo]at h3
 refine List.IsPrefix.trans ?_ h3
 have h4:kS l k m <+:kS l k 2:=by
  have:m=0∨m=1∨m=2:=by omega
  rcases this with rfl|rfl|rfl
  ·exact List.nil_prefix
  ·rw[nf l k 1];exact List.prefix_append _ _
  ·exact List.prefix_refl _
 exact(List.prefix_append_right_inj _).2 h4
def PX (l:List ad) (x:Nat×Nat×Int):Prop:=x.1<l.length/\x.2.1<l.length/\(0<=x.2.2/\x.2.2<=1)
def EL (x:Nat×Nat×Int):Array Value:= #[.agg #[.int .i64 (x.1:Int),.int .i64 (x.2.1:Int)],.int .i64 x.2.2]
theorem Ls (l:List ad) (p:aD) (h:0<l.length:=by omega):eD l p<(l.length:Int):=by
 unfold eD
 split<;>omega
theorem Rn (l:List ad) (hA:jF l) (q Ba:Nat) (vS:Value) (K:World->World->Prop) (kl:Hz K vS l) (J Jx:List (Nat×Nat×Int)->World->Prop) (n:Nat) (hn:1<=n)
  (hY:∀pre x W,J pre W->pre.length<(lp l l.length).length->PX l x->YieldAt Fence.wide (n-1) Tryz.prog q (EL x) W fun e W'=>
   (e=.returned (.bool true)/\J (pre++[x]) W'/\K W W')∨(e=.returned (.bool false)/\Jx (pre++[x]) W'))
  (W:World) (hJ:AbidesFrom W.heap.size J) (NI:W.heap[Ba]? =some (.cells #[vS] 41 (0,0))) (hP:pJ W vS l) (h0:J [] W):
  CallsIn Fence.wide n Tryz.prog 264 #[.func (.yield q) #[] #[],.pointer (some ⟨Ba,0,none⟩)] W fun e W'=>(∃v,e=.returned v)/\
   ((∃ys,ys=lp l l.length/\J ys W')∨(∃pre,pre <+:lp l l.length/\Jx pre W')):=by
 obtain⟨A,cp,rfl,_,_⟩:=hP.sl
 refine callsIn_of_wp Tryz.func264 rfl trivial ?_ rfl
 simp only[Tryz.ntmps264,List.size_toArray,List.length_cons,List.length_nil,Nat.reduceAdd,Nat.reduceSub,Array.replicate_succ,Array.replicate_zero,List.push_toArray,List.append_toArray,List.nil_append,List.cons_append]
 have jJ:W.cell? ⟨Ba,0,none⟩=some (.slice A l.length cp):=by simp[World.cell?,NI]
 gi_wp2
 gi_loopw [11] (fun i wr=>∃k:Nat,k<=l.length/\i=.int .i64 k/\J (lp l k) wr/\K W wr)
  (fun i _=>l.length-(intOf i).toNat)
 case atStart=>exact⟨0,Nat.zero_le _,rfl,h0,kl.refl _⟩
 case round=>
  obtain⟨k,hk,rfl,hJs,hKt⟩:=hrel
  by_cases dQ:k<l.length
  ·have dt:∃b o,A=some ⟨b,o,none⟩/\wr.cell? ⟨b,o+k*3,none⟩=some (.int .i64 (aI l k).aO.eY)/\wr.cell? ⟨b,o+k*3+1,none⟩=some (.int .i64 (aI l k).aO.eS)/\wr.cell? ⟨b,o+k*3+2,none⟩=some (.int .i64 (aI l k).aQ):=by
    obtain⟨A',c',hv,_,hc⟩:=(kl.pl hKt hP).sl
    cases hv
    rcases hc with rfl|⟨b,o,rfl,kn⟩
    ·simp at dQ
    ·obtain⟨h1,h2,h3⟩:=kn k dQ
     exact⟨b,o,rfl,by simpa using h1,by rw[Nat.add_assoc];exact h2,by rw[Nat.add_assoc];exact h3⟩
   obtain⟨b,o,rfl,hx,hy',ht⟩:=dt
   gi_wp2
   obtain⟨W2,Qp⟩:∃W2,(wr.alloc (.cells #[.int .i64 (aI l k).aO.eY,.int .i64 (aI l k).aO.eS,.int .i64 (aI l k).aQ] 137)).alloc (.cells #[.int .i64 1,.int .i64 0] 2)=W2:=⟨_,rfl⟩
   have pN:Below wr.heap.size wr W2:=by rw[<-Qp];exact((Below.refl _ wr).alloc (Nat.le_refl _) _).alloc (by simp) _
   have Tw:W2.heap[wr.heap.size]? =some (.cells #[.int .i64 (aI l k).aO.eY,.int .i64 (aI l k).aO.eS,.int .i64 (aI l k).aQ] 137 (0,0)):=by
    rw[<-Qp,Below.heap_alloc _ _ _ (by simp)];exact World.alloc_heap_new _ _
   have Tv:W2.heap[wr.heap.size+1]? =some (.cells #[.int .i64 1,.int .i64 0] 2 (0,0)):=by
    have:=World.alloc_heap_new (wr.alloc (.cells #[.int .i64 (aI l k).aO.eY,.int .i64 (aI l k).aO.eS,.int .i64 (aI l k).aQ] 137)) (.cells #[.int .i64 1,.int .i64 0] 2)
    rw[World.size_alloc]at this
    rw[<-Qp];exact this
   have NQ:K W W2:=kl.trans hKt (kl.of pN)
   have hJ2:J (lp l k++kS l k 0) W2:=by
    have:=hJ _ _ _ none hJs (grown_of pN) (fun r h=>by cases h)
    simpa[kS]using this
   rw[Qp]
   clear Qp
   generalize wr=w1 at *
   gi_loopw [18] (fun j wr=>∃m:Nat,m<=2/\j=.int .i64 m/\J (lp l k++kS l k m) wr/\K W2 wr)
    (fun j _=>2-(intOf j).toNat)
   case atStart=>exact⟨0,by omega,rfl,hJ2,kl.refl _⟩
   case round=>
    obtain⟨m,hm,rfl,hJm,Mw⟩:=hrel
    have hm0:m=0∨m=1∨m=2:=by omega
    by_cases Hm:m<2
    ·have hkd:=kl.typed Mw _ _ _ _ Tv (by decide) (by decide)
     have Lc:=kl.typed Mw _ _ _ _ Tw (by decide) (by decide)
     have hka:=kl.typed (kl.trans NQ Mw) _ _ _ _ NI (by decide) (by decide)
     have cd:wr.cell? ⟨w1.heap.size+1,m,none⟩=some (.int .i64 (1-(m:Int))):=by
      rw[World.cell?_of_block hkd]
      rcases hm0 with rfl|rfl|rfl
      ·simp[World.cell?,Tv]
      ·simp[World.cell?,Tv]
      ·omega
     have ct0:wr.cell? ⟨w1.heap.size,0,none⟩=some (.int .i64 (aI l k).aO.eY):=by rw[World.cell?_of_block Lc];simp[World.cell?,Tw]
     have ct1:wr.cell? ⟨w1.heap.size,1,none⟩=some (.int .i64 (aI l k).aO.eS):=by rw[World.cell?_of_block Lc];simp[World.cell?,Tw]
     have ca:wr.cell? ⟨Ba,0,none⟩=some (.slice (some ⟨b,o,none⟩) l.length cp):=by rw[World.cell?_of_block hka];simp[World.cell?,NI]
     have hPw:pJ wr (.slice (some ⟨b,o,none⟩) l.length cp) l:=kl.pl (kl.trans NQ Mw) hP
     have hba:Ba<wr.heap.size:=by
      have h1:=(Array.getElem?_eq_some_iff.1 NI).1
      have h2:=kl.size (kl.trans NQ Mw)
      omega
     have hdm:jc (1-(m:Int)) 0 3=true:=kO (by omega)
     have QT:=s7 (hA.pt dQ)
     have PK:=fun w0=>Ec w0 (aI l k).aO (1-(m:Int)) hdm QT.1 QT.2
     have hPd:pJ wr.drew (.slice (some ⟨b,o,none⟩) l.length cp) l:=hPw.below ⟨rfl,rfl,rfl,Nat.le_refl _,fun _ _=>rfl⟩
     have cad:wr.drew.cell? ⟨Ba,0,none⟩=some (.slice (some ⟨b,o,none⟩) l.length cp):=ca
     have ctd0:wr.drew.cell? ⟨w1.heap.size,0,none⟩=some (.int .i64 (aI l k).aO.eY):=ct0
     have ctd1:wr.drew.cell? ⟨w1.heap.size,1,none⟩=some (.int .i64 (aI l k).aO.eS):=ct1
     have hfw:=hA.rn
     have QM:=hA.GP
     have Ug:=mixed
     gi_wp2
     gi_region_with_o (first|(refine⟨trivial,?_⟩;gi_at_call 149;refine(callsIn_wide.2 (PK _)).mono ?_;rintro e w3 ⟨rfl,Bm⟩;have ca3:=(Bm.cell (p:=⟨Ba,0,none⟩) hba).trans cad)|(refine⟨trivial,?_⟩;gi_at_call 265;refine(callsIn_wide.2 (xH _ l _ (hPd.below Bm) (dx (aI l k).aO (1-(m:Int))) QM (by omega))).mono ?_;rintro e w4 ⟨rfl,hB4⟩))
     all_goals
      have NH:Below wr.heap.size wr w4:=(show Below wr.heap.size wr wr.drew from⟨rfl,rfl,rfl,Nat.le_refl _,fun _ _=>rfl⟩).trans (Bm.trans (hB4.mono Bm.size))
      have hJ4:J (lp l k++kS l k m) w4:=hJ _ _ _ none hJm (grown_of NH) (fun r h=>by cases h)
      have ui:=OC l dQ (m:=m+1) (by omega)
      rw[nf,<-List.append_assoc]at ui
      have qx:=nf l k m
      have hw:wrap64 ((m:Int)+1)=((m+1:Nat):Int):=by unfold wrap64;omega
      by_cases zE:0<=eD l (dx (aI l k).aO (1-(m:Int)))
      ·have ft:((eD l (dx (aI l k).aO (1-(m:Int)))).toNat:Int)=eD l (dx (aI l k).aO (1-(m:Int))):=by omega
       rw[B4,if_pos zE]at ui qx
       obtain⟨fn,tmps,assign,body,hy,hR⟩:=hY _ (k,(eD l (dx (aI l k).aO (1-(m:Int)))).toNat,1-(m:Int)) w4 hJ4 (by
        have:=ui.length_le
        simp only[List.length_append,List.length_cons,List.length_nil]at this ⊢
        omega) ⟨dQ,by
        have:eD l (dx (aI l k).aO (1-(m:Int)))<(l.length:Int):=Ls _ _
        show(eD l (dx (aI l k).aO (1-(m:Int)))).toNat<l.length
        omega,by show 0<=1-(m:Int);omega,by show 1-(m:Int)<=1;omega⟩
       simp only[EL,ft]at hy
       gi_wp2
       refine hR.mono ?_
       rintro e W3 (⟨rfl,hJ3,hk3⟩|⟨rfl,hJx3⟩)
       ·gi_wp2
        go_roundw
        case rel=>exact⟨m+1,by omega,by simp,by rw[qx,<-List.append_assoc];exact hJ3,kl.trans (kl.trans Mw (kl.of NH)) hk3⟩
        case measure=>simp[intOf];omega
       ·gi_wp2
        refine bodyPost_ret (results_none rfl _ _ _) rfl ?_
        exact⟨⟨_,rfl⟩,.inr ⟨_,ui,hJx3⟩⟩
      ·rw[B4,if_neg zE,List.append_nil]at qx
       gi_wp2
       refine⟨fun _ h=>(by cases h),?_⟩
       gi_wp2
       go_roundw
       case rel=>exact⟨m+1,by omega,by simp,by rw[qx];exact hJ4,kl.trans Mw (kl.of NH)⟩
       case measure=>simp[intOf];omega
    ·obtain rfl:m=2:=by omega
     have hfw:=hA.rn
     gi_wp2
     go_roundw
     case rel=>exact⟨k+1,by omega,by simp,by rw[mo];exact hJm,kl.trans NQ Mw⟩
     case measure=>simp[intOf];omega
  ·obtain rfl:k=l.length:=by omega
   gi_wp2
   go_end0
   exact⟨⟨_,rfl⟩,.inl ⟨_,rfl,hJs⟩⟩
end Go.Proofs.YtgoelphibofcmaaGreat.V

namespace Go.Proofs.YtgoelphibofcmaaGreat.V
open Go.RowKit Go.Shelf
attribute [local go_sem] Oper.semAt_some
theorem zT (n:Nat) (vS:Value) (w:World):CallsIn Fence.wide n Tryz.prog 244 #[.agg #[vS]] w fun e w'=>e=.returned (.func (.func 264) #[] #[.pointer (some ⟨w.heap.size,0,none⟩)])/\w'=w.alloc (.cells #[vS] 41):=by
 refine callsIn_of_wp Tryz.func244 rfl trivial ?_ rfl
 simp only[Tryz.ntmps244,List.size_toArray,List.length_cons,List.length_nil,Nat.reduceAdd,Nat.reduceSub,Array.replicate_succ,Array.replicate_zero,List.push_toArray,List.append_toArray,List.nil_append,List.cons_append]
 gi_wp2
 go_ret
 exact⟨rfl,rfl⟩
abbrev M8 (l:List ad):Type:={x:Nat×Nat×Int // PX l x}
theorem Jf (l:List ad) (hA:jF l) (Ba n:Nat) (hn:1<=n) (vS:Value) (K:World->World->Prop) (kl:Hz K vS l) (w:World) (NI:w.heap[Ba]? =some (.cells #[vS] 41 (0,0))) (hP:pJ w vS l):
  SeqStopsK Fence.wide n Tryz.prog 264 #[.pointer (some ⟨Ba,0,none⟩)] (fun x:M8 l=>EL x.1) K (fun ys=>ys.map (·.1)=lp l l.length) (fun _=>True) (lp l l.length).length w:=fun q J Jx W hW hJ _ hY h0=>by
 refine(Rn l hA q Ba vS K kl (fun ys W=>∃zs:List (M8 l),zs.map (·.1)=ys/\J zs W) (fun ys W=>∃zs:List (M8 l),zs.map (·.1)=ys/\Jx zs W) n hn (fun pre x W1 hJ1 dQ vW=>?_) W (fun s A B row ⟨zs,e,h⟩ hg hr=>⟨zs,e,hJ zs A B row h hg hr⟩) ((hW.block Ba (Array.getElem?_eq_some_iff.1 NI).1).trans NI) (hP.below hW) ⟨[],rfl,h0⟩).mono ?_
 ·obtain⟨zs,rfl,h1⟩:=hJ1
  refine YieldAt.mono (hY zs ⟨x,vW⟩ W1 h1 (by simpa using dQ)) ?_
  rintro e W' (⟨h2,h3,h4⟩|⟨h2,h3⟩)
  ·exact .inl ⟨h2,⟨zs++[⟨x,vW⟩],by simp,h3⟩,h4⟩
  ·exact .inr ⟨h2,⟨zs++[⟨x,vW⟩],by simp,h3⟩⟩
 ·rintro e W' ⟨h1,⟨ys,rfl,zs,h2,h3⟩|⟨pre,_,zs,h2,h3⟩⟩
  ·exact⟨h1,.inl ⟨zs,h2,h3⟩⟩
  ·exact⟨h1,.inr ⟨zs,trivial,h3⟩⟩
def zh (s:au) (l:List ad) (x:Nat×Nat×Int):List PB:=if 0<gT s (aI l x.1).aQ x.2.2 (aI l x.2.1).aQ then[⟨x.1,x.2.1,gT s (aI l x.1).aQ x.2.2 (aI l x.2.1).aQ⟩]else[]
theorem HT (s:au) (l:List ad):cI s l=(lp l l.length).flatMap (zh s l):=by
 have h1:∀i d,mQ s l i d=(B4 l i d).flatMap (zh s l):=fun i d=>by
  unfold mQ B4
  by_cases h:0<=eD l (dx (aI l i).aO d)
  ·rw[if_pos h]
   simp only[List.flatMap_cons,List.flatMap_nil,List.append_nil,zh]
   by_cases h2:0<gT s (aI l i).aQ d (aI l (eD l (dx (aI l i).aO d)).toNat).aQ
   ·rw[if_pos ⟨h,h2⟩,if_pos h2]
   ·rw[if_neg fun hc=>h2 hc.2,if_neg h2]
  ·rw[if_neg h,if_neg fun hc=>h hc.1];rfl
 unfold cI gN lp
 rw[List.flatMap_assoc]
 congr 1
 funext i
 unfold fX kS
 rw[List.flatMap_assoc]
 congr 1
 funext j
 exact h1 i _
end Go.Proofs.YtgoelphibofcmaaGreat.V

namespace Go.Proofs.YtgoelphibofcmaaGreat.V
open Go.RowKit
attribute [local irreducible] dI wpOps gD Call
attribute [local go_sem] aM fM eP gp gm cN upd cD K.av cR AV.cells AV.cell rowOf rowsOf part ld rowAt bz cu dG ef ik bQ dh eA gj e9 dq ek dd dc dU dV bW bf cW bV cY cX ei eo ej cV ck de eh bU aT da cG ij bx cQ b4 aY dn bc dH AV.undef bF bI eb ee dP dM cJ ez eE cF er ep cZ db List.getD_cons_zero List.getD_cons_succ List.getD_nil List.all_cons List.all_nil Bool.and_true Bool.true_and Bool.and_self Bool.not_true Bool.not_false Option.map_some Option.map_none Option.bind_some Option.bind_none List.length_cons List.length_nil List.take_succ_cons List.take_zero List.take_nil List.drop_succ_cons List.drop_zero List.drop_nil List.head?_cons List.map_cons List.map_nil List.getElem?_cons_zero List.getElem?_cons_succ List.cons_append List.nil_append List.append_nil List.length_map List.set_cons_zero List.set_cons_succ Nat.reduceMul eq_self Int.toNat_natCast Int.natCast_nonneg and_self true_and and_true decide_true decide_false Bool.false_eq_true Nat.zero_add Nat.add_zero List.contains_cons List.contains_nil Bool.or_false Bool.false_or beq_self_eq_true Nat.reduceBEq ne_eq not_true_eq_false not_false_eq_true Id.mk.injEq false_and and_false Nat.reduceLT Int.reduceLE Int.reduceLT Int.reduceToNat Int.reduceNeg Int.reduceAdd Nat.le_refl List.length_append beq_true beq_false Bool.not_eq_eq_eq_not or_false false_or dO ai aj aH bp bE cz aX bl aW bj cU bH
def Ad (bs:List PB):AV:=if bs=[]then .cq else .sl (bs.map ay)
theorem L6:Ad []=.cq:=rfl
theorem Ae {bs:List PB} (h:0<bs.length):Ad bs=.sl (bs.map ay):=by
 unfold Ad
 rw[if_neg (by rintro rfl;simp at h)]
theorem xq (cnt:Nat) (xw:1<=cnt) (hn:cnt<=1048576) (bs:List PB) (hb:∀b∈bs,b.a<cnt/\b.b<cnt) (hp:0<bs.length) (pW:bs.length<=1048576) (t:Int):aq Tryz.prog 221 [.int .i64 cnt,.sl (bs.map ay),.int .i64 t] (.gK [.int .i64 (leads cnt (ew (aL t bs))).length,Ad (dr (ew (aL t bs)) bs)]):=by
 refine aq.body eB rfl fun hl n0=>?_
 clear hl
 (try((repeat(revert hN;revert N;apply Pn.out));refine wk @Nat.zero_add ?_;(repeat(refine Pn.mk ?_;intro N hN))))
 refine .inr (aJ _ _ _ _ _ (fun r σ1 hq=>?_) (HW bs hp pW _))
 obtain⟨o,rfl,ho,Lj,Lk,QE⟩:=hq
 (try dsimp only at ho Lj Lk QE)
 refine hN _ _ ?_
 clear hN N
 (try((repeat(revert hN;revert N;apply Pn.out));refine wk @Nat.zero_add ?_;(repeat(refine Pn.mk ?_;intro N hN))))
 refine .inr (aJ _ _ _ _ _ (fun r σ2 hq=>?_) (FV bs t pW o ⟨221000000,n0⟩ _ ho (by rw[QE _ (by(try dsimp only);omega)];simp only[go_sem, ↓reduceIte,Nat.reduceEqDiff,Nat.reduceAdd,Nat.reduceSub,Nat.reduceLeDiff,reduceCtorEq]) (by(try dsimp only);omega) (by(try dsimp only);omega) (by rintro rfl;simp only at Lj;omega)))
 obtain⟨rows,rfl,fQ,hrt,sn,mV,Iw⟩:=hq
 (try dsimp only at mV Iw)
 refine hN _ _ ?_
 clear hN N
 have CC:=vN cnt xw hn (aL t bs) (fun b h=>hb b (wT h)) (by have:=np t bs;omega)
 have hL:=tM (aL t bs)
 have hz:∀x,cP (dO σ2.get) 6 [.int .i64 x,.own o 0 (aL t bs).length]=some [.int .i64 x,.sl ((aL t bs).map ay)]:=fun x=>by
  have:V.fz (dO σ2.get) 6 (.own o 0 (aL t bs).length)=some (.sl ((aL t bs).map ay)):=by
   rw[iw];simp only[dO,fQ,Option.map_some,if_true]
   rw[if_pos (by omega),List.drop_zero,hrt,qp fun b=>zt _ 4 b];rfl
  simp only[ai,aj,aH,this,Option.map_some]
 (try((repeat(revert hN;revert N;apply Pn.out));refine wk @Nat.zero_add ?_;(repeat(refine Pn.mk ?_;intro N hN))))
 refine .inl ⟨_,aq.x CC (hz _),?_⟩
 refine hN _ _ ?_
 clear hN N
 generalize ew (aL t bs)=L at *
 have sO:((fx cnt L).map AA).length=(leads cnt L).length:=by simp[fx]
 have Sw:=jP cnt L
 have jJ:(0:Int)<=(cnt:Int):=by omega
 have pZ:(cnt:Int)<=((16777216:Nat):Int):=by omega
 have gJ:List.replicate cnt [AV.int .i64 0]=dC (cL cnt L 0 0) cnt:=by rw[wZ,oO]
 (try((repeat(revert hN;revert N;apply Pn.out));refine wk (tw @jJ (tw @pZ (tw @Int.le_refl (tw @sO @gJ)))) ?_;(repeat(refine Pn.mk ?_;intro N hN))))
 refine aV (fun n env st=>∃i:Nat,n=((leads cnt L).length)-i/\i<=((leads cnt L).length)/\env 27=.int .i64 (i:Int)/\st.get ⟨221002001,σ2.next+1⟩=some ⟨true,1,dC (cL cnt L i 0) cnt⟩/\(σ2.next+1<st.next)) ((leads cnt L).length) ⟨0,by omega,by omega,sl (tw @gJ @sO),sl (tw @gJ @sO),(by(try dsimp only);omega)⟩ ?_
 rintro n_c env_c st_c ⟨i,rfl,cle,c27,cg0,cI0⟩ cfr
 have c1:=cfr 1 (by kernel_rfl);have c8:=cfr 8 (by kernel_rfl);have c9:=cfr 9 (by kernel_rfl);have xl:=cfr 25 (by kernel_rfl);have xn:=cfr 26 (by kernel_rfl)
 simp only[go_sem, ↓reduceIte,Nat.reduceEqDiff,Nat.reduceAdd,Nat.reduceSub,Nat.reduceLeDiff,reduceCtorEq,gJ,sO]at c1 c8 c9 xl xn
 clear cfr
 by_cases hi:(i:Int)<((leads cnt L).length:Int)
 ·have ig:∀{e:Env} {gg:Rows} {nx:Nat},(e 27=.int .i64 (IntKind.i64.wrap ((i:Int)+1)))->(gg ⟨221002001,σ2.next+1⟩=some ⟨true,1,dC (cL cnt L (i+1) 0) cnt⟩)->(σ2.next+1<nx)->∃m0,m0<((leads cnt L).length)-i/\∃i:Nat,m0=((leads cnt L).length)-i/\i<=((leads cnt L).length)/\e 27=.int .i64 (i:Int)/\gg ⟨221002001,σ2.next+1⟩=some ⟨true,1,dC (cL cnt L i 0) cnt⟩/\(σ2.next+1<nx):=fun x1 x2 x3=>⟨_,by omega,i+1,rfl,by omega,(by rw[x1,az (by omega)]),x2,x3⟩
  have ft:i<(leads cnt L).length:=by omega
  have j6:((fx cnt L).map AA)[i]? =some (AA (members cnt L (leads cnt L)[i])):=by simp[fx,ft]
  have uE:(leads cnt L).getD i 0=(leads cnt L)[i]:=by simp[List.getD_eq_getElem?_getD,ft]
  have lf:∀m,cL cnt L i m=fun x=>if bJ L x<i then bJ L x else if x∈(members cnt L (leads cnt L)[i]).take m then i else 0:=fun m=>by unfold cL;rw[uE]
  have rD:=fun x (hx:x<cnt)=>sZ hL (n:=cnt) (k:=x) (i:=i) hx ft
  have mi:(members cnt L (leads cnt L)[i]).Nodup:=List.nodup_range.filter _
  have N5:∀x∈members cnt L (leads cnt L)[i],x<cnt:=fun x hx=>(lK.1 hx).1
  have hMc:(members cnt L (leads cnt L)[i]).length<=cnt:=by
   have:=List.length_filter_le (fun k=>L k==(leads cnt L)[i]) (List.range cnt)
   simpa[members]using this
  generalize members cnt L (leads cnt L)[i]=M at *
  have CA:(M.map eN).length=M.length:=by simp
  (try((repeat(revert hN;revert N;apply Pn.out));refine wk (tw @c27 (tw @cg0 (tw @c1 (tw @c8 (tw @c9 (tw @xl (tw @xn (tw @hi (tw @sO (tw @j6 (tw @AA.eq_1 @CA))))))))))) ?_;(repeat(refine Pn.mk ?_;intro N hN))))
  refine aV (fun n env st=>∃m:Nat,n=(M.length)-m/\m<=(M.length)/\env 34=.int .i64 (m:Int)/\st.get ⟨221002001,σ2.next+1⟩=some ⟨true,1,dC (cL cnt L i m) cnt⟩/\(σ2.next+1<st.next)) (M.length) ⟨0,by omega,by omega,sl (tw @c27 (tw @cg0 (tw @c1 (tw @c8 (tw @c9 (tw @xl (tw @xn @CA))))))),sl (tw @c27 (tw @cg0 (tw @c1 (tw @c8 (tw @c9 (tw @xl (tw @xn @CA))))))),(by(try dsimp only);omega)⟩ ?_
  rintro n_d env_d st_d ⟨m,rfl,dle,d34,dg0,dI0⟩ dfr
  have d1:=dfr 1 (by kernel_rfl);have d8:=dfr 8 (by kernel_rfl);have d9:=dfr 9 (by kernel_rfl);have d10:=dfr 10 (by kernel_rfl);have d25:=dfr 25 (by kernel_rfl);have d26:=dfr 26 (by kernel_rfl);have d27:=dfr 27 (by kernel_rfl);have d32:=dfr 32 (by kernel_rfl);have d33:=dfr 33 (by kernel_rfl)
  simp only[go_sem, ↓reduceIte,Nat.reduceEqDiff,Nat.reduceAdd,Nat.reduceSub,Nat.reduceLeDiff,reduceCtorEq,c27,cg0,c1,c8,c9,xl,xn,CA]at d1 d8 d9 d10 d25 d26 d27 d32 d33
  clear dfr
  have tl:=gh (cL cnt L i m) cnt
  by_cases hm:(m:Int)<(M.length:Int)
  ·have tP:∀{e:Env} {gg:Rows} {nx:Nat},(e 34=.int .i64 (IntKind.i64.wrap ((m:Int)+1)))->(gg ⟨221002001,σ2.next+1⟩=some ⟨true,1,dC (cL cnt L i (m+1)) cnt⟩)->(σ2.next+1<nx)->∃m0,m0<(M.length)-m/\∃m:Nat,m0=(M.length)-m/\m<=(M.length)/\e 34=.int .i64 (m:Int)/\gg ⟨221002001,σ2.next+1⟩=some ⟨true,1,dC (cL cnt L i m) cnt⟩/\(σ2.next+1<nx):=fun x1 x2 x3=>⟨_,by omega,m+1,rfl,by omega,(by rw[x1,az (by omega)]),x2,x3⟩
   have zF:m<M.length:=by omega
   have vQ:(M.map eN)[m]? =some (eN M[m]):=by simp[zF]
   have vZ:=N5 _ (List.getElem_mem zF)
   have CH:(M[m]:Int)<(cnt:Int):=by omega
   have CG:=fo (f:=cL cnt L i m) vZ
   have eC:(dC (cL cnt L i m) cnt).set M[m] (eN i)=dC (cL cnt L i (m+1)) cnt:=pG vZ (by
    have h1:=(rD _ vZ).1 (List.getElem_mem zF)
    rw[lf]
    simp only[]
    rw[if_neg (by omega),if_pos (by rw[List.take_succ_eq_append_getElem zF];exact List.mem_append_right _ (List.mem_singleton.2 rfl))]) fun x hx gW=>by
    rw[lf,lf]
    simp only[]
    rw[List.take_succ_eq_append_getElem zF]
    simp only[List.mem_append,List.mem_singleton,gW,or_false]
   rw[eN]at eC CG
   generalize M[m]=xm at *
   (try((repeat(revert hN;revert N;apply Pn.out));refine wk (tw @d34 (tw @dg0 (tw @d1 (tw @d8 (tw @d9 (tw @d10 (tw @d25 (tw @d26 (tw @d27 (tw @d32 (tw @d33 (tw @hm (tw @hi (tw @vQ (tw @CA (tw @CH (tw @CG (tw @tl (tw @eC @eN.eq_1))))))))))))))))))) ?_;(repeat(refine Pn.mk ?_;intro N hN))))
   refine tP ?_ ?_ (by(try dsimp only);omega)
   all_goals simp only[go_sem, ↓reduceIte,Nat.reduceEqDiff,Nat.reduceAdd,Nat.reduceSub,Nat.reduceLeDiff,reduceCtorEq,d34,dg0,d1,d8,d9,d10,d25,d26,d27,d32,d33,eC]
  ·have lE:m=M.length:=by omega
   subst lE
   have qx:dC (cL cnt L i M.length) cnt=dC (cL cnt L (i+1) 0) cnt:=gY fun x hx=>by
    rw[lf,List.take_length]
    simp only[cL,List.take_zero,List.not_mem_nil,if_false]
    have h1:=rD x hx
    by_cases h2:bJ L x<i
    ·rw[if_pos h2,if_pos (by omega)]
    ·rw[if_neg h2]
     by_cases h3:x∈M
     ·rw[if_pos h3,if_pos (by have:=h1.1 h3;omega),h1.1 h3]
     ·rw[if_neg h3,if_neg fun h4=>h3 (h1.2 (by omega))]
   (try((repeat(revert hN;revert N;apply Pn.out));refine wk (tw @d34 (tw @dg0 (tw @d1 (tw @d8 (tw @d9 (tw @d10 (tw @d25 (tw @d26 (tw @d27 (tw @d32 (tw @d33 (tw @hm (tw @hi (tw @sO @CA)))))))))))))) ?_;(repeat(refine Pn.mk ?_;intro N hN))))
   refine ig ?_ ?_ (by(try dsimp only);omega)
   all_goals simp only[go_sem, ↓reduceIte,Nat.reduceEqDiff,Nat.reduceAdd,Nat.reduceSub,Nat.reduceLeDiff,reduceCtorEq,c27,cg0,c1,c8,c9,xl,xn,d34,dg0,d1,d8,d9,d10,d25,d26,d27,d32,d33,qx]
 have lD:i=(leads cnt L).length:=by omega
 subst lD
 have rE:dC (cL cnt L (leads cnt L).length 0) cnt=dC (bJ L) cnt:=gY fun x hx=>by rw[cL,if_pos (j9 hL hx)]
 rw[rE]at cg0
 have tl:=gh (bJ L) cnt
 have Se:(bs.map ay).length=bs.length:=by simp
 (try((repeat(revert hN;revert N;apply Pn.out));refine wk (tw @c27 (tw @cg0 (tw @c1 (tw @c8 (tw @c9 (tw @xl (tw @xn (tw @hi (tw @sO @Se))))))))) ?_;(repeat(refine Pn.mk ?_;intro N hN))))
 have Sh:σ2.next+1<st_c.next:=cI0
 refine aV (fun n env st=>∃j:Nat,n=(bs.length)-j/\j<=(bs.length)/\env 46=.int .i64 (j:Int)/\st.get ⟨221002001,σ2.next+1⟩=some ⟨true,1,dC (bJ L) cnt⟩/\(st_c.next<=st.next/\((dr L (bs.take j)=[]/\env 14=.cq)∨∃p:Id,env 14=.own p 0 (dr L (bs.take j)).length/\st.get p=some ⟨true,3,(dr L (bs.take j)).map ay⟩/\st_c.next<=p.bP/\p.bP<st.next/\0<(dr L (bs.take j)).length))) (bs.length) ⟨0,by omega,by omega,sl (tw @c27 (tw @cg0 (tw @c1 (tw @c8 (tw @c9 (tw @xl (tw @xn @Se))))))),sl (tw @c27 (tw @cg0 (tw @c1 (tw @c8 (tw @c9 (tw @xl (tw @xn @Se))))))),⟨by(try dsimp only);omega,.inl ⟨rfl,by(simp only[go_sem, ↓reduceIte,Nat.reduceEqDiff,Nat.reduceAdd,Nat.reduceSub,Nat.reduceLeDiff,reduceCtorEq])⟩⟩⟩ ?_
 rintro n_f env_f st_f ⟨j,rfl,fle,f46,fg0,fI0⟩ ffr
 have f1:=ffr 1 (by kernel_rfl);have f8:=ffr 8 (by kernel_rfl);have f9:=ffr 9 (by kernel_rfl);have f44:=ffr 44 (by kernel_rfl);have f45:=ffr 45 (by kernel_rfl)
 simp only[go_sem, ↓reduceIte,Nat.reduceEqDiff,Nat.reduceAdd,Nat.reduceSub,Nat.reduceLeDiff,reduceCtorEq,c27,cg0,c1,c8,c9,xl,xn,Se]at f1 f8 f9 f44 f45
 clear ffr
 obtain⟨Py,fO⟩:=fI0
 have IQ:=dw (i:=⟨221002001,σ2.next+1⟩) (n:=st_f.next) (by(try dsimp only);omega)
 have CF:=(nk L (bs.take j)).1
 rw[List.length_take]at CF
 by_cases hj:(j:Int)<(bs.length:Int)
 ·have rP:∀{e:Env} {gg:Rows} {nx:Nat},(e 46=.int .i64 (IntKind.i64.wrap ((j:Int)+1)))->(gg ⟨221002001,σ2.next+1⟩=some ⟨true,1,dC (bJ L) cnt⟩)->(st_c.next<=nx/\((dr L (bs.take (j+1))=[]/\e 14=.cq)∨∃p:Id,e 14=.own p 0 (dr L (bs.take (j+1))).length/\gg p=some ⟨true,3,(dr L (bs.take (j+1))).map ay⟩/\st_c.next<=p.bP/\p.bP<nx/\0<(dr L (bs.take (j+1))).length))->∃m0,m0<(bs.length)-j/\∃j:Nat,m0=(bs.length)-j/\j<=(bs.length)/\e 46=.int .i64 (j:Int)/\gg ⟨221002001,σ2.next+1⟩=some ⟨true,1,dC (bJ L) cnt⟩/\(st_c.next<=nx/\((dr L (bs.take j)=[]/\e 14=.cq)∨∃p:Id,e 14=.own p 0 (dr L (bs.take j)).length/\gg p=some ⟨true,3,(dr L (bs.take j)).map ay⟩/\st_c.next<=p.bP/\p.bP<nx/\0<(dr L (bs.take j)).length)):=fun x1 x2 x3=>⟨_,by omega,j+1,rfl,by omega,(by rw[x1,az (by omega)]),x2,x3⟩
  have iO:j<bs.length:=by omega
  have Hj:(bs.map ay)[j]? =some (ay bs[j]):=by simp[iO]
  have MA:=hb _ (List.getElem_mem iO)
  have hs:=Aa L (bs.take j) bs[j]
  rw[<-List.take_succ_eq_append_getElem iO]at hs
  generalize bs[j]=b at *
  have hA:=fo (f:=bJ L) MA.1
  have hB:=fo (f:=bJ L) MA.2
  have gI:(b.a:Int)<(cnt:Int):=by omega
  have fP:(b.b:Int)<(cnt:Int):=by omega
  rw[eN]at hA hB
  have e1:(dr L (bs.take j)).length+1<=16777216:=by omega
  have lE:((dr L (bs.take j)).map ay).length=(dr L (bs.take j)).length:=by simp
  by_cases he:bJ L b.a=bJ L b.b
  ·rw[if_pos he,List.append_nil]at hs
   have uD:decide ((bJ L b.a:Int)=(bJ L b.b:Int))=true:=decide_eq_true (by rw[he])
   (try((repeat(revert hN;revert N;apply Pn.out));refine wk (tw @f46 (tw @fg0 (tw @f1 (tw @f8 (tw @f9 (tw @f44 (tw @f45 (tw @hj (tw @Hj (tw @hA (tw @hB (tw @gI (tw @fP (tw @tl (tw @uD (tw @IQ (tw @ay.eq_1 (tw @Bool.not_true @Bool.not_false)))))))))))))))))) ?_;(repeat(refine Pn.mk ?_;intro N hN))))
   refine rP ?_ ?_ (by(try dsimp only);exact⟨by omega,by
    rw[hs]
    rcases fO with⟨h1,h2⟩|⟨p,h1,h2,h3,h4,h5⟩
    ·exact .inl ⟨h1,sd @h2⟩
    ·have AF:=dw h4
     exact .inr ⟨p,sd @h1,sd (tw @h2 @AF),h3,by omega,h5⟩⟩)
   all_goals simp only[go_sem, ↓reduceIte,Nat.reduceEqDiff,Nat.reduceAdd,Nat.reduceSub,Nat.reduceLeDiff,reduceCtorEq,f46,fg0,f1,f8,f9,f44,f45,IQ]
  ·rw[if_neg he]at hs
   have uD:decide ((bJ L b.a:Int)=(bJ L b.b:Int))=false:=decide_eq_false fun h=>he (by omega)
   rcases fO with⟨h1,f14⟩|⟨p,f14,fg,N9,IE,hp3⟩
   ·rw[h1]at hs
    (try((repeat(revert hN;revert N;apply Pn.out));refine wk (tw @f46 (tw @fg0 (tw @f1 (tw @f8 (tw @f9 (tw @f44 (tw @f45 (tw @f14 (tw @hj (tw @Hj (tw @hA (tw @hB (tw @gI (tw @fP (tw @tl (tw @uD (tw @IQ (tw @ay.eq_1 (tw @Bool.not_true @Bool.not_false))))))))))))))))))) ?_;(repeat(refine Pn.mk ?_;intro N hN))))
    refine rP ?_ ?_ (by(try dsimp only);exact⟨by omega,.inr ⟨⟨221017015,st_f.next+1+1+1⟩,by rw[hs];simp only[go_sem, ↓reduceIte,Nat.reduceEqDiff,Nat.reduceAdd,Nat.reduceSub,Nat.reduceLeDiff,reduceCtorEq,List.nil_append,List.length_cons,List.length_nil],by rw[hs];simp only[go_sem, ↓reduceIte,Nat.reduceEqDiff,Nat.reduceAdd,Nat.reduceSub,Nat.reduceLeDiff,reduceCtorEq,ay,List.nil_append,List.map_cons,List.map_nil],by(try dsimp only);omega,by(try dsimp only);omega,by rw[hs];simp⟩⟩)
    all_goals simp only[go_sem, ↓reduceIte,Nat.reduceEqDiff,Nat.reduceAdd,Nat.reduceSub,Nat.reduceLeDiff,reduceCtorEq,f46,fg0,f1,f8,f9,f44,f45,IQ]
   ·have x1:=cr (a:=⟨221002001,σ2.next+1⟩) (b:=p) (by(try dsimp only);omega)
    have AF:=dw IE
    (try((repeat(revert hN;revert N;apply Pn.out));refine wk (tw @f46 (tw @fg0 (tw @f1 (tw @f8 (tw @f9 (tw @f44 (tw @f45 (tw @f14 (tw @fg (tw @hj (tw @Hj (tw @hA (tw @hB (tw @gI (tw @fP (tw @tl (tw @uD (tw @x1 (tw @AF (tw @IQ (tw @e1 (tw @lE (tw @ay.eq_1 (tw @Bool.not_true @Bool.not_false)))))))))))))))))))))))) ?_;(repeat(refine Pn.mk ?_;intro N hN))))
    refine rP ?_ ?_ (by(try dsimp only);exact⟨by omega,.inr ⟨⟨221017015,st_f.next+1+1+1⟩,by rw[hs,List.length_append];simp only[go_sem, ↓reduceIte,Nat.reduceEqDiff,Nat.reduceAdd,Nat.reduceSub,Nat.reduceLeDiff,reduceCtorEq,List.length_cons,List.length_nil],by rw[hs,List.map_append,List.map_cons,List.map_nil];simp only[go_sem, ↓reduceIte,Nat.reduceEqDiff,Nat.reduceAdd,Nat.reduceSub,Nat.reduceLeDiff,reduceCtorEq,ay],by(try dsimp only);omega,by(try dsimp only);omega,by rw[hs];simp⟩⟩)
    all_goals simp only[go_sem, ↓reduceIte,Nat.reduceEqDiff,Nat.reduceAdd,Nat.reduceSub,Nat.reduceLeDiff,reduceCtorEq,f46,fg0,f1,f8,f9,f44,f45,x1,IQ]
 ·have gZ:j=bs.length:=by omega
  subst gZ
  rw[List.take_length]at fO
  rcases fO with⟨h1,f14⟩|⟨p,f14,fg,N9,IE,hp3⟩
  ·(try((repeat(revert hN;revert N;apply Pn.out));refine wk (tw @f46 (tw @fg0 (tw @f1 (tw @f8 (tw @f9 (tw @f44 (tw @f45 (tw @f14 (tw @hj @sO))))))))) ?_;(repeat(refine Pn.mk ?_;intro N hN))))
   refine jx (.inl rfl) (r1:=.int .i64 ((leads cnt L).length:Int)) (sd @Nat.zero_add) (by simp only[go_sem, ↓reduceIte,Nat.reduceEqDiff,Nat.reduceAdd,Nat.reduceSub,Nat.reduceLeDiff,reduceCtorEq];rfl) ?_
   simp only[eW,bD,cE,eM,kJ,h1,L6,Option.map_some]
  ·(try((repeat(revert hN;revert N;apply Pn.out));refine wk (tw @f46 (tw @fg0 (tw @f1 (tw @f8 (tw @f9 (tw @f44 (tw @f45 (tw @f14 (tw @hj @sO))))))))) ?_;(repeat(refine Pn.mk ?_;intro N hN))))
   refine jx (.inl rfl) (r1:=.int .i64 ((leads cnt L).length:Int)) (sd @Nat.zero_add) (by simp only[go_sem, ↓reduceIte,Nat.reduceEqDiff,Nat.reduceAdd,Nat.reduceSub,Nat.reduceLeDiff,reduceCtorEq];rfl) ?_
   have h1:gu st_f.get 5 (.own p 0 (dr L bs).length)=some (.sl ((dr L bs).map ay)):=fD (sz:=3) fg rfl fun b=>uy _ 3 b
   simp only[eW,bD,cE,eM,h1,Ae hp3,Option.map_some]
theorem xp (cnt:Nat) (xw:1<=cnt) (hn:cnt<=1048576) (t:Int):aq Tryz.prog 221 [.int .i64 cnt,.cq,.int .i64 t] (.gK [.int .i64 cnt,.cq]):=by
 refine aq.body eB rfl fun hl n0=>?_
 clear hl
 have h1:aq Tryz.prog 242 [.cq] .cq:=by
  refine aq.body eB rfl fun hl n0=>?_
  clear hl
  (try((repeat(revert hN;revert N;apply Pn.out));refine wk @Nat.zero_add ?_;(repeat(refine Pn.mk ?_;intro N hN))))
  exact wM (.inl rfl) (r0:=.cq) (sd @Nat.zero_add) (kJ _ _)
 have h2:aq Tryz.prog 241 [.cq,.fn 243 [.di [.int .i64 t]]] .cq:=by
  have Ga:=(yq [] t (by simp)).cut mixed (.cq (.same _ .nil))
  refine aq.body eB rfl fun hl n0=>?_
  clear hl
  (try((repeat(revert hN;revert N;apply Pn.out));refine wk @Nat.zero_add ?_;(repeat(refine Pn.mk ?_;intro N hN))))
  refine .inl ⟨_,aq.x Ga (by simp only[ai,aj,aX,cU,aW,List.all_cons,List.all_nil,AV.cell,Bool.and_true,if_true,Option.map_some]),?_⟩
  refine hN _ _ ?_
  clear hN N
  have hd:decide (kg (fun b:PB=>decide (b.s<t)) []= -1)=true:=rfl
  (try((repeat(revert hN;revert N;apply Pn.out));refine wk @hd ?_;(repeat(refine Pn.mk ?_;intro N hN))))
  exact wM (.inl rfl) (r0:=.cq) (sd @Nat.zero_add) (kJ _ _)
 have CC:=(vN cnt xw hn [] (fun b h=>by cases h) (by simp)).cut mixed (.same _ (.cq .nil))
 (repeat(first|((repeat(revert hN;revert N;apply Pn.out));refine wk @Nat.zero_add ?_;(repeat(refine Pn.mk ?_;intro N hN)))|((try apply Or.inl);refine⟨_,aq.x (h1) (sd @Nat.zero_add),?_⟩;refine hN _ _ ?_;clear hN N)))
 refine .inl ⟨_,aq.x h2 ?_,?_⟩
 ·have:V.fz (dO (bz (fun _=>none) ⟨221000000,n0⟩ ⟨true,1,[[.int .i64 t]]⟩)) 5 (.ptr ⟨221000000,n0⟩ 0 0)=some (.di [.int .i64 t]):=vK (sz:=1) (rows:=[[.int .i64 t]]) (by simp[dO,bz]) rfl (by simp only[List.drop_zero,ai,aj,aH,Option.map_some])
  simp only[ai,aj,aX,cU,this,List.all_cons,List.all_nil,AV.cell,Bool.and_true,if_true,Option.map_some]
 refine hN _ _ ?_
 clear hN N
 have fP:ew ([]:List PB)=id:=rfl
 rw[fP]at CC
 have hL:jH id:=fP▸tM ([]:List PB)
 have PD:(leads cnt id).length=cnt:=by rw[leads,List.filter_eq_self.2 (fun a _=>by simp)];simp
 generalize (id:Nat->Nat)=L at *
 have sO:((fx cnt L).map AA).length=(leads cnt L).length:=by simp[fx]
 have Sw:=jP cnt L
 have jJ:(0:Int)<=(cnt:Int):=by omega
 have pZ:(cnt:Int)<=((16777216:Nat):Int):=by omega
 have gJ:List.replicate cnt [AV.int .i64 0]=dC (cL cnt L 0 0) cnt:=by rw[wZ,oO]
 (repeat(first|((repeat(revert hN;revert N;apply Pn.out));refine wk (tw @jJ (tw @pZ (tw @Int.le_refl (tw @sO @gJ)))) ?_;(repeat(refine Pn.mk ?_;intro N hN)))|((try apply Or.inl);refine⟨_,aq.x (CC) (sd (tw @jJ (tw @pZ (tw @Int.le_refl (tw @sO @gJ))))),?_⟩;refine hN _ _ ?_;clear hN N)))
 refine aV (fun n env st=>∃i:Nat,n=((leads cnt L).length)-i/\i<=((leads cnt L).length)/\env 27=.int .i64 (i:Int)/\st.get ⟨221002001,n0+1+1⟩=some ⟨true,1,dC (cL cnt L i 0) cnt⟩/\(n0+1+1<st.next)) ((leads cnt L).length) ⟨0,by omega,by omega,sl (tw @gJ @sO),sl (tw @gJ @sO),(by(try dsimp only);omega)⟩ ?_
 rintro n_c env_c st_c ⟨i,rfl,cle,c27,cg0,cI0⟩ cfr
 have c1:=cfr 1 (by kernel_rfl);have c8:=cfr 8 (by kernel_rfl);have c9:=cfr 9 (by kernel_rfl);have xl:=cfr 25 (by kernel_rfl);have xn:=cfr 26 (by kernel_rfl)
 simp only[go_sem, ↓reduceIte,Nat.reduceEqDiff,Nat.reduceAdd,Nat.reduceSub,Nat.reduceLeDiff,reduceCtorEq,gJ,sO]at c1 c8 c9 xl xn
 clear cfr
 by_cases hi:(i:Int)<((leads cnt L).length:Int)
 ·have ig:∀{e:Env} {gg:Rows} {nx:Nat},(e 27=.int .i64 (IntKind.i64.wrap ((i:Int)+1)))->(gg ⟨221002001,n0+1+1⟩=some ⟨true,1,dC (cL cnt L (i+1) 0) cnt⟩)->(n0+1+1<nx)->∃m0,m0<((leads cnt L).length)-i/\∃i:Nat,m0=((leads cnt L).length)-i/\i<=((leads cnt L).length)/\e 27=.int .i64 (i:Int)/\gg ⟨221002001,n0+1+1⟩=some ⟨true,1,dC (cL cnt L i 0) cnt⟩/\(n0+1+1<nx):=fun x1 x2 x3=>⟨_,by omega,i+1,rfl,by omega,(by rw[x1,az (by omega)]),x2,x3⟩
  have ft:i<(leads cnt L).length:=by omega
  have j6:((fx cnt L).map AA)[i]? =some (AA (members cnt L (leads cnt L)[i])):=by simp[fx,ft]
  have uE:(leads cnt L).getD i 0=(leads cnt L)[i]:=by simp[List.getD_eq_getElem?_getD,ft]
  have lf:∀m,cL cnt L i m=fun x=>if bJ L x<i then bJ L x else if x∈(members cnt L (leads cnt L)[i]).take m then i else 0:=fun m=>by unfold cL;rw[uE]
  have rD:=fun x (hx:x<cnt)=>sZ hL (n:=cnt) (k:=x) (i:=i) hx ft
  have mi:(members cnt L (leads cnt L)[i]).Nodup:=List.nodup_range.filter _
  have N5:∀x∈members cnt L (leads cnt L)[i],x<cnt:=fun x hx=>(lK.1 hx).1
  have hMc:(members cnt L (leads cnt L)[i]).length<=cnt:=by
   have:=List.length_filter_le (fun k=>L k==(leads cnt L)[i]) (List.range cnt)
   simpa[members]using this
  generalize members cnt L (leads cnt L)[i]=M at *
  have CA:(M.map eN).length=M.length:=by simp
  (try((repeat(revert hN;revert N;apply Pn.out));refine wk (tw @c27 (tw @cg0 (tw @c1 (tw @c8 (tw @c9 (tw @xl (tw @xn (tw @hi (tw @sO (tw @j6 (tw @AA.eq_1 @CA))))))))))) ?_;(repeat(refine Pn.mk ?_;intro N hN))))
  refine aV (fun n env st=>∃m:Nat,n=(M.length)-m/\m<=(M.length)/\env 34=.int .i64 (m:Int)/\st.get ⟨221002001,n0+1+1⟩=some ⟨true,1,dC (cL cnt L i m) cnt⟩/\(n0+1+1<st.next)) (M.length) ⟨0,by omega,by omega,sl (tw @c27 (tw @cg0 (tw @c1 (tw @c8 (tw @c9 (tw @xl (tw @xn @CA))))))),sl (tw @c27 (tw @cg0 (tw @c1 (tw @c8 (tw @c9 (tw @xl (tw @xn @CA))))))),(by(try dsimp only);omega)⟩ ?_
  rintro n_d env_d st_d ⟨m,rfl,dle,d34,dg0,dI0⟩ dfr
  have d1:=dfr 1 (by kernel_rfl);have d8:=dfr 8 (by kernel_rfl);have d9:=dfr 9 (by kernel_rfl);have d10:=dfr 10 (by kernel_rfl);have d25:=dfr 25 (by kernel_rfl);have d26:=dfr 26 (by kernel_rfl);have d27:=dfr 27 (by kernel_rfl);have d32:=dfr 32 (by kernel_rfl);have d33:=dfr 33 (by kernel_rfl)
  simp only[go_sem, ↓reduceIte,Nat.reduceEqDiff,Nat.reduceAdd,Nat.reduceSub,Nat.reduceLeDiff,reduceCtorEq,c27,cg0,c1,c8,c9,xl,xn,CA]at d1 d8 d9 d10 d25 d26 d27 d32 d33
  clear dfr
  have tl:=gh (cL cnt L i m) cnt
  by_cases hm:(m:Int)<(M.length:Int)
  ·have tP:∀{e:Env} {gg:Rows} {nx:Nat},(e 34=.int .i64 (IntKind.i64.wrap ((m:Int)+1)))->(gg ⟨221002001,n0+1+1⟩=some ⟨true,1,dC (cL cnt L i (m+1)) cnt⟩)->(n0+1+1<nx)->∃m0,m0<(M.length)-m/\∃m:Nat,m0=(M.length)-m/\m<=(M.length)/\e 34=.int .i64 (m:Int)/\gg ⟨221002001,n0+1+1⟩=some ⟨true,1,dC (cL cnt L i m) cnt⟩/\(n0+1+1<nx):=fun x1 x2 x3=>⟨_,by omega,m+1,rfl,by omega,(by rw[x1,az (by omega)]),x2,x3⟩
   have zF:m<M.length:=by omega
   have vQ:(M.map eN)[m]? =some (eN M[m]):=by simp[zF]
   have vZ:=N5 _ (List.getElem_mem zF)
   have CH:(M[m]:Int)<(cnt:Int):=by omega
   have CG:=fo (f:=cL cnt L i m) vZ
   have eC:(dC (cL cnt L i m) cnt).set M[m] (eN i)=dC (cL cnt L i (m+1)) cnt:=pG vZ (by
    have h1:=(rD _ vZ).1 (List.getElem_mem zF)
    rw[lf]
    simp only[]
    rw[if_neg (by omega),if_pos (by rw[List.take_succ_eq_append_getElem zF];exact List.mem_append_right _ (List.mem_singleton.2 rfl))]) fun x hx gW=>by
    rw[lf,lf]
    simp only[]
    rw[List.take_succ_eq_append_getElem zF]
    simp only[List.mem_append,List.mem_singleton,gW,or_false]
   rw[eN]at eC CG
   generalize M[m]=xm at *
   (try((repeat(revert hN;revert N;apply Pn.out));refine wk (tw @d34 (tw @dg0 (tw @d1 (tw @d8 (tw @d9 (tw @d10 (tw @d25 (tw @d26 (tw @d27 (tw @d32 (tw @d33 (tw @hm (tw @hi (tw @vQ (tw @CA (tw @CH (tw @CG (tw @tl (tw @eC @eN.eq_1))))))))))))))))))) ?_;(repeat(refine Pn.mk ?_;intro N hN))))
   refine tP ?_ ?_ (by(try dsimp only);omega)
   all_goals simp only[go_sem, ↓reduceIte,Nat.reduceEqDiff,Nat.reduceAdd,Nat.reduceSub,Nat.reduceLeDiff,reduceCtorEq,d34,dg0,d1,d8,d9,d10,d25,d26,d27,d32,d33,eC]
  ·have lE:m=M.length:=by omega
   subst lE
   have qx:dC (cL cnt L i M.length) cnt=dC (cL cnt L (i+1) 0) cnt:=gY fun x hx=>by
    rw[lf,List.take_length]
    simp only[cL,List.take_zero,List.not_mem_nil,if_false]
    have h1:=rD x hx
    by_cases h2:bJ L x<i
    ·rw[if_pos h2,if_pos (by omega)]
    ·rw[if_neg h2]
     by_cases h3:x∈M
     ·rw[if_pos h3,if_pos (by have:=h1.1 h3;omega),h1.1 h3]
     ·rw[if_neg h3,if_neg fun h4=>h3 (h1.2 (by omega))]
   (try((repeat(revert hN;revert N;apply Pn.out));refine wk (tw @d34 (tw @dg0 (tw @d1 (tw @d8 (tw @d9 (tw @d10 (tw @d25 (tw @d26 (tw @d27 (tw @d32 (tw @d33 (tw @hm (tw @hi (tw @sO @CA)))))))))))))) ?_;(repeat(refine Pn.mk ?_;intro N hN))))
   refine ig ?_ ?_ (by(try dsimp only);omega)
   all_goals simp only[go_sem, ↓reduceIte,Nat.reduceEqDiff,Nat.reduceAdd,Nat.reduceSub,Nat.reduceLeDiff,reduceCtorEq,c27,cg0,c1,c8,c9,xl,xn,d34,dg0,d1,d8,d9,d10,d25,d26,d27,d32,d33,qx]
 have lD:i=(leads cnt L).length:=by omega
 subst lD
 have rE:dC (cL cnt L (leads cnt L).length 0) cnt=dC (bJ L) cnt:=gY fun x hx=>by rw[cL,if_pos (j9 hL hx)]
 rw[rE]at cg0
 have tl:=gh (bJ L) cnt
 (try((repeat(revert hN;revert N;apply Pn.out));refine wk (tw @c27 (tw @cg0 (tw @c1 (tw @c8 (tw @c9 (tw @xl (tw @xn (tw @hi @sO)))))))) ?_;(repeat(refine Pn.mk ?_;intro N hN))))
 refine aV (fun n env st=>∃j:Nat,n=(0)-j/\j<=(0)/\env 46=.int .i64 (j:Int)/\env 14=.cq) (0) ⟨0,by omega,by omega,sl (tw @c27 (tw @cg0 (tw @c1 (tw @c8 (tw @c9 (tw @xl @xn)))))),sl (tw @c27 (tw @cg0 (tw @c1 (tw @c8 (tw @c9 (tw @xl @xn))))))⟩ ?_
 rintro n_f env_f st_f ⟨j,rfl,fle,f46,f14⟩ ffr
 have f8:=ffr 8 (by kernel_rfl);have f44:=ffr 44 (by kernel_rfl);have f45:=ffr 45 (by kernel_rfl)
 simp only[go_sem, ↓reduceIte,Nat.reduceEqDiff,Nat.reduceAdd,Nat.reduceSub,Nat.reduceLeDiff,reduceCtorEq,c27,cg0,c1,c8,c9,xl,xn]at f8 f44 f45
 clear ffr
 have hj:¬(j:Int)<((0:Nat):Int):=by omega
 (try((repeat(revert hN;revert N;apply Pn.out));refine wk (tw @f46 (tw @f14 (tw @f8 (tw @f44 (tw @f45 (tw @hj @sO)))))) ?_;(repeat(refine Pn.mk ?_;intro N hN))))
 refine jx (.inl rfl) (r1:=.int .i64 ((leads cnt L).length:Int)) (r2:=.cq) (sd @Nat.zero_add) (sd @Nat.zero_add) ?_
 simp only[eW,bD,cE,eM,kJ,PD,Option.map_some]
theorem zo (cnt:Nat) (xw:1<=cnt) (hn:cnt<=1048576) (bs:List PB) (hb:∀b∈bs,b.a<cnt/\b.b<cnt) (pW:bs.length<=1048576) (t:Int):aq Tryz.prog 221 [.int .i64 cnt,Ad bs,.int .i64 t] (.gK [.int .i64 (leads cnt (ew (aL t bs))).length,Ad (dr (ew (aL t bs)) bs)]):=by
 cases bs with
 |nil=>
  have h:=xp cnt xw hn t
  have PD:(leads cnt (ew (aL t []))).length=cnt:=by
   show(leads cnt id).length=cnt
   rw[leads,List.filter_eq_self.2 (fun a _=>by simp)];simp
  rw[PD]
  exact h
 |cons b r=>
  rw[Ae (by simp)]
  exact xq cnt xw hn (b::r) hb (by simp) pW t
end Go.Proofs.YtgoelphibofcmaaGreat.V

namespace Go.Proofs.YtgoelphibofcmaaGreat.V
open Go.RowKit
attribute [local irreducible] dI wpOps gD Call
attribute [local go_sem] aM fM eP gp gm cN upd cD K.av cR AV.cells AV.cell rowOf rowsOf part ld rowAt bz cu dG ef ik bQ dh eA gj e9 dq ek dd dc dU dV bW bf cW bV cY cX ei eo ej cV ck de eh bU aT da cG ij bx cQ b4 aY dn bc dH AV.undef bF bI eb ee dP dM cJ ez eE cF er ep cZ db List.getD_cons_zero List.getD_cons_succ List.getD_nil List.all_cons List.all_nil Bool.and_true Bool.true_and Bool.and_self Bool.not_true Bool.not_false Option.map_some Option.map_none Option.bind_some Option.bind_none List.length_cons List.length_nil List.take_succ_cons List.take_zero List.take_nil List.drop_succ_cons List.drop_zero List.drop_nil List.head?_cons List.map_cons List.map_nil List.getElem?_cons_zero List.getElem?_cons_succ List.cons_append List.nil_append List.append_nil List.length_map List.set_cons_zero List.set_cons_succ Nat.reduceMul eq_self Int.toNat_natCast Int.natCast_nonneg and_self true_and and_true decide_true decide_false Bool.false_eq_true Nat.zero_add Nat.add_zero List.contains_cons List.contains_nil Bool.or_false Bool.false_or beq_self_eq_true Nat.reduceBEq ne_eq not_true_eq_false not_false_eq_true Id.mk.injEq false_and and_false Nat.reduceLT Int.reduceLE Int.reduceLT Int.reduceToNat Int.reduceNeg Int.reduceAdd Nat.le_refl List.length_append beq_true beq_false Bool.not_eq_eq_eq_not or_false false_or dO ai aj aH bp bE cz aX bl aW bj cU bH
attribute [local go_sem] Fy
section
attribute [-go_sem] dG
theorem LJ (n:Nat) (hn:n<=1048576):aq Tryz.prog 277 [.int .u64 1,.int .u64 n] (.gK [.int .u64 0,.int .u64 n]):=by
 refine aq.body eB rfl fun hl n0=>?_
 clear hl
 have b1:(BitVec.ofInt 64 (n:Int)&&& BitVec.ofInt 64 4294967295).toNat=n:=by
  rw[BitVec.toNat_and]
  have e1:(BitVec.ofInt 64 (n:Int)).toNat=n:=by rw[BitVec.toNat_ofInt];omega
  have e2:(BitVec.ofInt 64 4294967295).toNat=2 ^ 32-1:=by decide
  rw[e1,e2]
  exact Nat.and_two_pow_sub_one_of_lt_two_pow (by omega)
 have zn:IntKind.u64.wrap (n:Int)=n:=by rw[IntKind.wrap_u64];omega
 have i1:dG .and .u64 (n:Int) 4294967295=some (.int .u64 n):=by
  show some (AV.int .u64 (IntKind.u64.wrap (((BitVec.ofInt 64 (n:Int)&&& BitVec.ofInt 64 4294967295).toNat:Nat):Int)))= _
  rw[b1,zn]
 have i2:dG .and .u64 1 4294967295=some (.int .u64 1):=rfl
 have i3:dG .and .u64 0 4294967295=some (.int .u64 0):=rfl
 have i4:dG .mul .u64 1 (n:Int)=some (.int .u64 n):=by simp only[dG,Int.one_mul,zn]
 have i5:dG .mul .u64 0 (n:Int)=some (.int .u64 0):=by simp only[dG,Int.zero_mul];rfl
 have i6:dG .mul .u64 1 0=some (.int .u64 0):=rfl
 have i7:dG .mul .u64 0 0=some (.int .u64 0):=rfl
 have i8:dG .add .u64 0 0=some (.int .u64 0):=rfl
 have a3:Int.fdiv 1 (2 ^ min 32 64)=0:=by decide
 have a4:Int.fdiv (n:Int) (2 ^ min 32 64)=0:=by
  rw[Int.fdiv_eq_ediv_of_nonneg _ (by decide)]
  have h32:(2:Int) ^ min 32 64=4294967296:=by decide
  exact Int.ediv_eq_zero_of_lt (by omega) (by omega)
 have z1:Int.fdiv 0 (2 ^ min 32 64)=0:=by decide
 (try((repeat(revert hN;revert N;apply Pn.out));refine wk (tw @i1 (tw @i2 (tw @i3 (tw @i4 (tw @i5 (tw @i6 (tw @i7 (tw @i8 (tw @a3 (tw @a4 @z1)))))))))) ?_;(repeat(refine Pn.mk ?_;intro N hN))))
 refine jx (.inl rfl) (r1:=.int .u64 0) (r2:=.int .u64 n) (sd @Nat.zero_add) (sd @Nat.zero_add) ?_
 simp only[eW,bD,cE,eM,Option.map_some]
end
theorem Rm (n:Nat) (hn:n<=1048576):aq Tryz.prog 275 [.int .u64 1,.int .u64 n] (.gK [.int .u64 0,.int .u64 n]):=by
 refine aq.body eB rfl fun hl n0=>?_
 clear hl
 have h:=LJ n hn
 (repeat(first|((repeat(revert hN;revert N;apply Pn.out));refine wk @Nat.zero_add ?_;(repeat(refine Pn.mk ?_;intro N hN)))|((try apply Or.inl);refine⟨_,aq.x (h) (sd @Nat.zero_add),?_⟩;refine hN _ _ ?_;clear hN N)))
 refine jx (.inl rfl) (r1:=.int .u64 0) (r2:=.int .u64 n) (sd @Nat.zero_add) (sd @Nat.zero_add) ?_
 simp only[eW,bD,cE,eM,Option.map_some]
theorem JB (cnt:Nat) (xw:1<=cnt) (hn:cnt<=1048576) (v:Int) (x:Id) (σ:ar) (hx:σ.get x=some ⟨true,1,[[.int .i64 v]]⟩) (Ou:x.bP<σ.next):
  Call Tryz.prog 271 [.own x 0 1,.int .i64 cnt] σ fun r σ'=>∃o:Id,r=.own o 0 cnt/\σ'.get o=some ⟨true,1,List.replicate cnt [.int .i64 v]⟩/\σ.next<=o.bP/\o.bP<σ'.next/\∀i:Id,i.bP<σ.next->σ'.get i=σ.get i:=by
 refine eT eB rfl fun hl=>?_
 clear hl
 have h:=Rm cnt hn
 have w1:IntKind.u64.wrap (cnt:Int)=cnt:=by rw[IntKind.wrap_u64];omega
 have w2:IntKind.i64.wrap (cnt:Int)=cnt:=Kg (by omega)
 have w0:IntKind.u64.wrap ((1:Nat):Int)=1:=by decide
 have g1:¬(cnt:Int)<0:=by omega
 have g2:¬(9223372036854775807:Int)<cnt:=by omega
 have jJ:(0:Int)<=(cnt:Int):=by omega
 have pZ:(cnt:Int)<=((16777216:Nat):Int):=by omega
 have PL:=dw Ou
 have sn:(List.replicate cnt [AV.int .i64 0]).length=cnt:=List.length_replicate
 have m1:min 1 cnt=1:=by omega
 (repeat(first|((repeat(revert hN;revert N;apply Pn.out));refine wk (tw @w0 (tw @w1 (tw @w2 (tw @g1 (tw @g2 (tw @jJ (tw @pZ (tw @Int.le_refl (tw @Nat.le_refl (tw @hx (tw @PL (tw @sn @m1)))))))))))) ?_;(repeat(refine Pn.mk ?_;intro N hN)))|((try apply Or.inl);refine⟨_,aq.x (h) (sd (tw @w0 (tw @w1 (tw @w2 (tw @g1 (tw @g2 (tw @jJ (tw @pZ (tw @Int.le_refl (tw @Nat.le_refl (tw @hx (tw @PL (tw @sn @m1))))))))))))),?_⟩;refine hN _ _ ?_;clear hN N)))
 refine aV (fun m env st=>∃k:Nat,m=cnt-k/\1<=k/\k<=cnt/\env 8=.int .i64 (k:Int)/\st.get ⟨271006002,σ.next+1+1+1+1⟩=some ⟨true,1,List.replicate k [.int .i64 v]++List.replicate (cnt-k) [.int .i64 0]⟩/\σ.next+4<st.next/\∀i:Id,i.bP<σ.next->st.get i=σ.get i) (cnt-1) ⟨1,rfl,Nat.le_refl _,xw,by(simp only[go_sem, ↓reduceIte,Nat.reduceEqDiff,Nat.reduceAdd,Nat.reduceSub,Nat.reduceLeDiff,reduceCtorEq,m1])<;>rfl,?_,by(try dsimp only);omega,fun i hi=>?_⟩ ?_
 ·simp only[go_sem, ↓reduceIte,Nat.reduceEqDiff,Nat.reduceAdd,Nat.reduceSub,Nat.reduceLeDiff,reduceCtorEq]
  rw[List.drop_replicate];rfl
 ·have Ds:=dw hi
  simp only[go_sem, ↓reduceIte,Nat.reduceEqDiff,Nat.reduceAdd,Nat.reduceSub,Nat.reduceLeDiff,reduceCtorEq,Ds]
 rintro m env_b st_b ⟨k,rfl,xf,vU,b8,bg,bn,fW⟩ bkp
 have b7:=bkp 7 (by kernel_rfl)
 simp only[go_sem, ↓reduceIte,Nat.reduceEqDiff,Nat.reduceAdd,Nat.reduceSub,Nat.reduceLeDiff,reduceCtorEq]at b7
 clear bkp
 have QV:(List.replicate k [AV.int .i64 v]++List.replicate (cnt-k) [AV.int .i64 0]).length=cnt:=by simp;omega
 by_cases hk:(k:Int)<(cnt:Int)
 ·have fy:k<cnt:=by omega
  have xe:(k:Int)<=(cnt:Int):=by omega
  have hw:IntKind.i64.wrap ((k:Int)+((min k (cnt-k):Nat):Int))=((k+min k (cnt-k):Nat):Int):=by rw[bt (by omega)];omega
  have nQ:List.take k (List.replicate k [AV.int .i64 v]++List.replicate (cnt-k) [AV.int .i64 0])=List.replicate k [AV.int .i64 v]:=List.take_left' (by simp)
  have dF:(List.replicate k [AV.int .i64 v]).all (fun c=>c.length==1&&c.all AV.cell)=true:=List.all_eq_true.2 fun c hc=>by rw[List.eq_of_mem_replicate hc];rfl
  have hlr:(List.replicate k [AV.int .i64 v]).length=k:=List.length_replicate
  have Oj:k+(cnt-k)=cnt:=by omega
  have vY:List.replicate k [AV.int .i64 v]++List.take (min k (cnt-k)) (List.replicate k [AV.int .i64 v])++List.drop (k+min k (cnt-k)) (List.replicate k [AV.int .i64 v]++List.replicate (cnt-k) [AV.int .i64 0])=List.replicate (k+min k (cnt-k)) [AV.int .i64 v]++List.replicate (cnt-(k+min k (cnt-k))) [AV.int .i64 0]:=by
   rw[List.take_replicate,List.drop_append,List.drop_of_length_le (by simp),List.nil_append,hlr,List.drop_replicate,List.replicate_append_replicate]
   congr 2
   ·omega
   ·omega
  (try((repeat(revert hN;revert N;apply Pn.out));refine wk (tw @b7 (tw @b8 (tw @bg (tw @QV (tw @hk (tw @xe (tw @vU (tw @hw (tw @fy (tw @Nat.sub_zero (tw @nQ (tw @dF (tw @hlr (tw @Oj (tw @Nat.le_refl @vY))))))))))))))) ?_;(repeat(refine Pn.mk ?_;intro N hN))))
  refine⟨_,?_,k+min k (cnt-k),rfl,by omega,by omega,sd @hw,sd @vY,by(try dsimp only);omega,fun i hi=>?_⟩
  ·omega
  ·have Ds:=dw hi
   have:=fW i hi
   simp only[go_sem, ↓reduceIte,Nat.reduceEqDiff,Nat.reduceAdd,Nat.reduceSub,Nat.reduceLeDiff,reduceCtorEq,Ds,this]
 ·have l6:k=cnt:=by omega
  subst l6
  (try((repeat(revert hN;revert N;apply Pn.out));refine wk (tw @b7 (tw @b8 (tw @bg (tw @QV @hk)))) ?_;(repeat(refine Pn.mk ?_;intro N hN))))
  refine fw (.inl rfl) (vs:=[.own ⟨271006002,σ.next+1+1+1+1⟩ 0 k]) (sd @Nat.zero_add) ⟨⟨271006002,σ.next+1+1+1+1⟩,rfl,by simp only[go_sem, ↓reduceIte,Nat.reduceEqDiff,Nat.reduceAdd,Nat.reduceSub,Nat.reduceLeDiff,reduceCtorEq,bg];simp,by(try dsimp only);omega,by(try dsimp only);omega,fun i hi=>fW i hi⟩
end Go.Proofs.YtgoelphibofcmaaGreat.V

namespace Go.Proofs.YtgoelphibofcmaaGreat.V
open Go.RowKit
attribute [local irreducible] dI wpOps gD Call
attribute [local go_sem] aM fM eP gp gm cN upd cD K.av cR AV.cells AV.cell rowOf rowsOf part ld rowAt bz cu dG ef ik bQ dh eA gj e9 dq ek dd dc dU dV bW bf cW bV cY cX ei eo ej cV ck de eh bU aT da cG ij bx cQ b4 aY dn bc dH AV.undef bF bI eb ee dP dM cJ ez eE cF er ep cZ db List.getD_cons_zero List.getD_cons_succ List.getD_nil List.all_cons List.all_nil Bool.and_true Bool.true_and Bool.and_self Bool.not_true Bool.not_false Option.map_some Option.map_none Option.bind_some Option.bind_none List.length_cons List.length_nil List.take_succ_cons List.take_zero List.take_nil List.drop_succ_cons List.drop_zero List.drop_nil List.head?_cons List.map_cons List.map_nil List.getElem?_cons_zero List.getElem?_cons_succ List.cons_append List.nil_append List.append_nil List.length_map List.set_cons_zero List.set_cons_succ Nat.reduceMul eq_self Int.toNat_natCast Int.natCast_nonneg and_self true_and and_true decide_true decide_false Bool.false_eq_true Nat.zero_add Nat.add_zero List.contains_cons List.contains_nil Bool.or_false Bool.false_or beq_self_eq_true Nat.reduceBEq ne_eq not_true_eq_false not_false_eq_true Id.mk.injEq false_and and_false Nat.reduceLT Int.reduceLE Int.reduceLT Int.reduceToNat Int.reduceNeg Int.reduceAdd Nat.le_refl List.length_append beq_true beq_false Bool.not_eq_eq_eq_not or_false false_or dO ai aj aH bp bE cz aX bl aW bj cU bH
def kZ (R:Nat->Id) (n k:Nat):List (List AV):=(List.range k).map fun i=>[.own (R i) 0 n]
theorem kc (R:Nat->Id) (n k:Nat):(kZ R n k).length=k:=by simp[kZ]
theorem r6 {R:Nat->Id} {n k i:Nat} (h:i<k):(kZ R n k)[i]? =some [.own (R i) 0 n]:=by simp[kZ,h]
theorem tf (R:Nat->Id) (n k:Nat):kZ R n (k+1)=kZ R n k++[[.own (R k) 0 n]]:=by simp[kZ,List.range_succ]
def xL (c:Nat->Nat->Int) (n:Nat):List (List AV):=(List.range n).map fun i=>[.sl (dS (c i) n)]
theorem Co {c:Nat->Nat->Int} {n i:Nat} (h:i<n):(xL c n)[i]? =some [.sl (dS (c i) n)]:=by simp[xL,h]
theorem wY (c:Nat->Nat->Int) (n:Nat):(xL c n).length=n:=by simp[xL]
structure FF (X o1 o2:Id) (R1 R2:Nat->Id) (n nb:Nat):Prop where
 sx:X.site=245001001
 s1:o1.site=245004008
 s2:o2.site=245005008
 SQ:∀i,i<n->(R1 i).site=245004006
 MV:∀i,i<n->(R2 i).site=245005006
 i1:∀i j,i<n->j<n->R1 i=R1 j->i=j
 i2:∀i j,i<n->j<n->R2 i=R2 j->i=j
 vx:X.bP<nb
 v1:o1.bP<nb
 v2:o2.bP<nb
 SS:∀i,i<n->(R1 i).bP<nb
 PV:∀i,i<n->(R2 i).bP<nb
structure nF (g:Rows) (X o1 o2:Id) (R1 R2:Nat->Id) (n:Nat) (c f:Nat->Nat->Int):Prop where
 x:g X=some ⟨true,2,[[.own o1 0 n,.own o2 0 n]]⟩
 t1:g o1=some ⟨true,1,kZ R1 n n⟩
 t2:g o2=some ⟨true,1,kZ R2 n n⟩
 r1:∀i,i<n->g (R1 i)=some ⟨true,1,dS (c i) n⟩
 r2:∀i,i<n->g (R2 i)=some ⟨true,1,dS (f i) n⟩
theorem nF.frame {g g':Rows} {X o1 o2:Id} {R1 R2:Nat->Id} {n nb:Nat} {c f:Nat->Nat->Int} (I:FF X o1 o2 R1 R2 n nb) (h:nF g X o1 o2 R1 R2 n c f) (hf:∀i:Id,i.bP<nb->g' i=g i):nF g' X o1 o2 R1 R2 n c f:=
 ⟨(hf _ I.vx).trans h.x,(hf _ I.v1).trans h.t1,(hf _ I.v2).trans h.t2,fun i hi=>(hf _ (I.SS i hi)).trans (h.r1 i hi),fun i hi=>(hf _ (I.PV i hi)).trans (h.r2 i hi)⟩
theorem ou {f:Nat->Nat->Int} {a b:Nat} {d:Int} {n:Nat} (hb:b<n):(dS (f a) n).set b (bq (f a b+d))=dS (bump f a b d a) n:=k6 hb (by simp[bump]) fun i _ hi=>by simp[bump,hi]
theorem j0 {f:Nat->Nat->Int} {a b i:Nat} {d:Int} (h:i≠a):bump f a b d i=f i:=by funext v;simp[bump,h]
theorem nF.add {g g':Rows} {X o1 o2:Id} {R1 R2:Nat->Id} {n nb:Nat} {c f:Nat->Nat->Int} (I:FF X o1 o2 R1 R2 n nb) (h:nF g X o1 o2 R1 R2 n c f) (b:PB) (ha:b.a<n) (hb:b.b<n) (hA:b.a≠b.b->g' (R1 b.a)=some ⟨true,1,dS (bump c b.a b.b b.s b.a) n⟩) (hB:g' (R1 b.b)=some ⟨true,1,dS (nI c b b.b) n⟩) (hf:∀i:Id,i.bP<nb->(i=R1 b.a)=False->(i=R1 b.b)=False->g' i=g i):nF g' X o1 o2 R1 R2 n (nI c b) f:=by
 have ne:∀{i:Id} {s:Nat},i.site=s->(s==245004006)=false->∀a,a<n->(i=R1 a)=False:=fun {i s} hi hs a ha=>by
  simp only[eq_iff_iff,iff_false]
  rintro rfl
  rw[I.SQ a ha]at hi
  subst hi
  simp at hs
 refine⟨(hf _ I.vx (ne I.sx (by decide) _ ha) (ne I.sx (by decide) _ hb)).trans h.x,(hf _ I.v1 (ne I.s1 (by decide) _ ha) (ne I.s1 (by decide) _ hb)).trans h.t1,(hf _ I.v2 (ne I.s2 (by decide) _ ha) (ne I.s2 (by decide) _ hb)).trans h.t2,fun i hi=>?_,fun i hi=>(hf _ (I.PV i hi) (ne (I.MV i hi) (by decide) _ ha) (ne (I.MV i hi) (by decide) _ hb)).trans (h.r2 i hi)⟩
 by_cases Kt:i=b.b
 ·subst Kt;exact hB
 ·by_cases N0:i=b.a
  ·subst N0
   rw[hA Kt,nI,j0 Kt]
  ·rw[nI,j0 Kt,j0 N0,hf _ (I.SS i hi) (by simp only[eq_iff_iff,iff_false];exact fun he=>N0 (I.i1 i _ hi ha he)) (by simp only[eq_iff_iff,iff_false];exact fun he=>Kt (I.i1 i _ hi hb he))]
   exact h.r1 i hi
def ly (n:Nat) (c f:Nat->Nat->Int):List AV:=[.sl (xL c n),.sl (xL f n)]
theorem Fx {g:Rows} {R:Nat->Id} {n k:Nat} {c:Nat->Nat->Int} (h:∀i,i<k->g (R i)=some ⟨true,1,dS (c i) n⟩) (m:Nat):dZ (dO g) (m+3) (kZ R n k)=some ((List.range k).map fun i=>[.sl (dS (c i) n)]):=by
 induction k with
 |zero=>rw[show kZ R n 0=[]from rfl,dZ];rfl
 |succ k ih=>
  have e1:V.fz (dO g) (m+3) (.own (R k) 0 n)=some (.sl (dS (c k) n)):=by
   rw[iw];simp only[dO,h k (by omega),Option.map_some,if_true]
   rw[if_pos (by rw[dB];omega),List.drop_zero,List.take_of_length_le (by rw[dB];omega),Ak];rfl
  have app:∀(xs ys:List (List AV)) (SV RQ:List (List AV)),dZ (dO g) (m+3) xs=some SV->dZ (dO g) (m+3) ys=some RQ->dZ (dO g) (m+3) (xs++ys)=some (SV++RQ):=by
   intro xs
   induction xs with
   |nil=>intro ys SV RQ h1 h2;rw[dZ]at h1;cases h1;exact h2
   |cons a xs ih2=>
    intro ys SV RQ h1 h2
    rw[dZ]at h1
    rw[List.cons_append,dZ]
    cases ha:cP (dO g) (m+3) a with
    |none=>simp[ha]at h1
    |some a'=>
     cases hb:dZ (dO g) (m+3) xs with
     |none=>simp[ha,hb]at h1
     |some b'=>
      simp[ha,hb]at h1
      subst h1
      rw[ih2 ys b' RQ hb h2];rfl
  rw[tf,List.range_succ,List.map_append]
  refine app _ _ _ _ (ih fun i hi=>h i (by omega)) ?_
  rw[dZ,ai,aj,e1,dZ];rfl
theorem nF.fz {g:Rows} {X o1 o2:Id} {R1 R2:Nat->Id} {n:Nat} {c f:Nat->Nat->Int} (h:nF g X o1 o2 R1 R2 n c f):V.fz (dO g) 6 (.ptr X 0 0)=some (.di (ly n c f)):=by
 refine vK (sz:=2) (rows:=[[.own o1 0 n,.own o2 0 n]]) (by simp[dO,h.x]) rfl ?_
 have e1:V.fz (dO g) 5 (.own o1 0 n)=some (.sl (xL c n)):=by
  rw[iw];simp only[dO,h.t1,Option.map_some,if_true]
  rw[if_pos (by rw[kc];omega),List.drop_zero,List.take_of_length_le (by rw[kc];omega)]
  rw[show dZ _ 4 _=some (xL c n)from Fx h.r1 1];rfl
 have e2:V.fz (dO g) 5 (.own o2 0 n)=some (.sl (xL f n)):=by
  rw[iw];simp only[dO,h.t2,Option.map_some,if_true]
  rw[if_pos (by rw[kc];omega),List.drop_zero,List.take_of_length_le (by rw[kc];omega)]
  rw[show dZ _ 4 _=some (xL f n)from Fx h.r2 1];rfl
 simp only[List.drop_zero,ai,aj,e1,e2,ly,Option.map_some]
theorem Nz (n:Nat) (c f:Nat->Nat->Int) (u v:Nat) (hu:u<n) (hv:v<n):aq Tryz.prog 272 [.di (ly n c f),.int .i64 u,.int .i64 v] (.bool (decide (f u v<c u v))):=by
 refine aq.body eB rfl fun hl n0=>?_
 clear hl
 have h1:=Co (c:=c) hu
 have h2:=Co (c:=f) hu
 have h3:=dK (f:=c u) hv
 have h4:=dK (f:=f u) hv
 have hui:(u:Int)<(n:Int):=by omega
 have Ds:(v:Int)<(n:Int):=by omega
 have l1:=wY c n
 have l2:=wY f n
 have l3:=dB (c u) n
 have l4:=dB (f u) n
 rw[bq]at h3 h4
 (try((repeat(revert hN;revert N;apply Pn.out));refine wk (tw @ly.eq_1 (tw @h1 (tw @h2 (tw @h3 (tw @h4 (tw @hui (tw @Ds (tw @l1 (tw @l2 (tw @l3 @l4)))))))))) ?_;(repeat(refine Pn.mk ?_;intro N hN))))
 exact aU (b:=decide (f u v<c u v)) (.inl rfl) (sd @Nat.zero_add) rfl
end Go.Proofs.YtgoelphibofcmaaGreat.V
