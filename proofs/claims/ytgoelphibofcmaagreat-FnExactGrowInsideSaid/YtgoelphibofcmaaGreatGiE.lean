/- Growth inside an assembly, by the reference: the rounds. -/
import Derived.Test.YtgoelphibofcmaaGreatGiD
import Derived.Test.YtgoelphibofcmaaGreatGiB
import Derived.Shelf.SlSortCmp.WholeK
import Derived.Shelf.SlSortCmp.NoneTotal
import Derived.Ground.SlsfProg
import Derived.Test.YtgoelphibofcmaaGreatProg
import Derived.Test.YtgoelphibofcmaaGreatGiC
import Derived.Maps.RangeRun
import Derived.Test.YtgoelphibofcmaaGreatChecked
import Derived.RangeFuncNested
import Derived.RangeFuncBound
import Derived.RangeFuncCalls
import Derived.RangeFuncLeaves
import Derived.Shelf.Abstract
import Derived.Shelf.RegionOpen
import Derived.WalkKit
import Derived.OwnWalkIn
import Derived.TacticsInMore
import Derived.LoopNIn
import Derived.LoopIn
import Derived.BigQuiet
import Derived.RangeFuncBox
import Derived.RangeFuncWrites
import Derived.Maps.AppendAt
set_option linter.unusedVariables false
set_option linter.unusedSimpArgs false
set_option maxRecDepth 100000
set_option maxHeartbeats 16000000
namespace Go.Proofs.YtgoelphibofcmaaGreat.V
open Go.RowKit
attribute [local irreducible] dG wpOps gy Call
attribute [local go_sem] aM fF eP ga fW cQ upd cz K.av cR AV.cells AV.cell rowOf rowsOf part ld rowAt bq cu dD ee ik bJ dh ev fU eX dr ej dd dc dQ dR bQ bf cW bP cY cX eh ek ei cV cj de ef bK aO da cG ij bw cK bU aY dn aZ dE AV.undef bD bG dV ec dM dK cH eu ew cF ep eo cZ db List.getD_cons_zero List.getD_cons_succ List.getD_nil List.all_cons List.all_nil Bool.and_true Bool.true_and Bool.and_self Bool.not_true Bool.not_false Option.map_some Option.map_none Option.bind_some Option.bind_none List.length_cons List.length_nil List.take_succ_cons List.take_zero List.take_nil List.drop_succ_cons List.drop_zero List.drop_nil List.head?_cons List.map_cons List.map_nil List.getElem?_cons_zero List.getElem?_cons_succ List.cons_append List.nil_append List.append_nil List.length_map List.set_cons_zero List.set_cons_succ Nat.reduceMul eq_self Int.toNat_natCast Int.natCast_nonneg and_self true_and and_true decide_true decide_false Bool.false_eq_true Nat.zero_add Nat.add_zero List.contains_cons List.contains_nil Bool.or_false Bool.false_or beq_self_eq_true Nat.reduceBEq ne_eq not_true_eq_false not_false_eq_true Id.mk.injEq false_and and_false Nat.reduceLT Int.reduceLE Int.reduceLT Int.reduceToNat Int.reduceNeg Int.reduceAdd Nat.le_refl List.length_append beq_true beq_false Bool.not_eq_eq_eq_not or_false false_or dL ai aj aH bl bB cw aX bd aU bh cU bH
theorem Fz {g:Rows} {X o:Id} {L:List ad} (hX:g X=some ⟨true,1,[[.own o 0 L.length]]⟩) (ho:g o=some ⟨true,3,L.map aa⟩):fz (dL g) 6 (.ptr X 0 0)=some (.di [.sl (L.map aa)]):=by
 have h1:fz (dL g) 5 (.own o 0 L.length)=some (.sl (L.map aa)):=gr (e:=aa) (sz:=3) (by simp[dL,ho]) rfl fun x=>by simp[aa,ai,aj,aH]
 exact v8 (n:=5) (sz:=1) (rows:=[[.own o 0 L.length]]) (cs:=[.own o 0 L.length]) (by simp[dL,hX]) rfl (by simp[ai,aj,h1])
def KR (X:Id) (st:iS) (e7:AV) (g:Rows) (n:Nat):Prop:=∃o u:Id,g X=some ⟨true,1,[[.own o 0 st.2.length]]⟩/\g o=some ⟨true,3,st.2.map aa⟩/\e7=.own u 0 st.1.length/\g u=some ⟨true,3,st.1.map aa⟩/\o.ck<u.ck/\X.ck<u.ck/\u.ck<n/\o≠X
theorem KR.frame {X:Id} {st:iS} {e7 Qs:AV} {g g':Rows} {n n':Nat} (h:KR X st e7 g n) (he:Qs=e7) (hn:n<=n') (hf:∀x:Id,x.ck<n->g' x=g x):KR X st Qs g' n':=by
 obtain⟨o,u,h1,h2,h3,h4,h5,h6,h7,h8⟩:=h
 exact⟨o,u,(hf X (by omega)).trans h1,(hf o (by omega)).trans h2,he.trans h3,(hf u h7).trans h4,h5,h6,by omega,h8⟩
theorem tV {s:aA} {st:iS} {x:ad} (h:j4 s st.2 x.aQ x.aV=true):ju s st x=(st.1++[x],iz st.2 x):=if_pos h
theorem wC {s:aA} {st:iS} {x:ad} (h:j4 s st.2 x.aQ x.aV=false):ju s st x=st:=if_neg (by rw[h];simp)
theorem B5 (s:aA) (hP:vn s) (l:List ad) (hA:jk s.aE l) (hW:iR s.bc.ah l=true):aq Tryz.prog 60 [.di (aw s),.di [.sl (l.map aa)]] (.gJ [.sl ((kb s l).1.map aa),.agg [.sl ((kb s l).2.map aa)]]):=by
 refine aq.body eC rfl fun ml n0=>?_
 clear ml
 have IH:=hA.1.sD
 have Lj:=ta hP hA hW
 have Rc:=Lj.sD
 (try dsimp only at Rc)
 (try((repeat(revert hN;revert N;apply Pn.out));refine wk @aw.eq_1 ?_;(repeat(refine Pn.mk ?_;intro N hN))))
 refine .inr (aI _ _ _ _ _ (fun r σ1 hq=>?_) (Nn.val (fun n=>(Jc s.bc.ah (by omega) n).cut mixed (.ptr _ [.int .i64 s.aB] .nil)) (by simp only[ai,aj,aU,Option.map_some];rfl)))
 obtain⟨⟨o,rfl,q1,q2,q3⟩,hK⟩:=hq
 obtain⟨g1,x1⟩:=σ1
 (try dsimp only at q1 q2 q3 hK)
 have uw:=hK.1
 have k5:=hK.2 ⟨60000001,n0⟩ (by(try dsimp only);omega)
 simp only[go_sem, ↓reduceIte,Nat.reduceEqDiff,Nat.reduceAdd,Nat.reduceSub,Nat.reduceLeDiff,reduceCtorEq]at k5
 (try dsimp only at uw)
 refine hN _ _ ?_
 clear hN N
 (try((repeat(revert hN;revert N;apply Pn.out));refine wk (tw @k5 @aw.eq_1) ?_;(repeat(refine Pn.mk ?_;intro N hN))))
 refine aW (fun n env st=>∃(S:iS) (m:Nat) (go:Bool),n=(if go then m else 0)/\env 8=.bool go/\(go=true->wz s l m S=kb s l/\oN l S.2<m)/\(go=false->S=kb s l)/\oj s l S/\KR ⟨60001004,x1⟩ S (env 7) st.get st.next/\st.get ⟨60000001,n0⟩=some ⟨true,1,[[.cm]]⟩) (l.length+1) ⟨([],s.bc.ah),l.length+1,true,rfl,sd @Nat.zero_add,fun _=>⟨rfl,by have:=E4 l s.bc.ah;(try dsimp only);omega⟩,fun h=>(by cases h),Lj,?_,?_⟩ ?_
 ·have vo:=dp (i:=o) (n:=x1) (by omega)
  have vu:=dp (i:=⟨60001004,x1⟩) (n:=x1+1) (by(try dsimp only);omega)
  exact⟨o,⟨60002000,x1+1⟩,sd @Nat.zero_add,sd (tw @vo @q1),sl @Nat.zero_add,sl @Nat.zero_add,by(try dsimp only);omega,by(try dsimp only);omega,by(try dsimp only);omega,fun e=>by rw[e]at q3;(try dsimp only at q3);omega⟩
 ·simp only[go_sem, ↓reduceIte,Nat.reduceEqDiff,Nat.reduceAdd,Nat.reduceSub,Nat.reduceLeDiff,reduceCtorEq,k5]
 rintro n1 e1 st1 ⟨S,m,go,rfl,e8,rK,hend,hI,hL,hr5⟩ hk
 have c0:=hk 0 (by kernel_rfl)
 have c1:=hk 1 (by kernel_rfl)
 have c5:=hk 5 (by kernel_rfl)
 have c6:=hk 6 (by kernel_rfl)
 simp only[go_sem, ↓reduceIte,Nat.reduceEqDiff,Nat.reduceAdd,Nat.reduceSub,Nat.reduceLeDiff,reduceCtorEq,aw]at c0 c1 c5 c6
 clear hk q1 q2 q3 hK k5
 cases go
 ·have hS:=hend rfl
  subst hS
  clear hend rK
  obtain⟨o,u,h1,h2,h3,h4,h5,h6,h7,h8⟩:=hL
  (try((repeat(revert hN;revert N;apply Pn.out));refine wk (tw @e8 (tw @c5 (tw @c6 (tw @h1 (tw @h3 @hr5))))) ?_;(repeat(refine Pn.mk ?_;intro N hN))))
  have a5:o=⟨60000001,n0⟩->False:=fun e=>by
   rw[e,hr5]at h2
   simp at h2
  have b5:u=⟨60000001,n0⟩->False:=fun e=>by
   rw[e,hr5]at h4
   simp at h4
  have oa:=eq_false a5
  have ob:=eq_false b5
  exact qe (.inl rfl) (vs:=[.own u 0 (kb s l).1.length,.agg [.own o 0 (kb s l).2.length]]) (sd (tw @c5 @h3)) (by
   simp only[fq,eR,bz,cD,uJ]
   rw[fc (e:=aa) (l:=(kb s l).1) (sz:=3) (sd (tw @ob @h4)) rfl (fun x=>Iu _ 3 x),fc (e:=aa) (l:=(kb s l).2) (sz:=3) (sd (tw @oa @h2)) rfl (fun x=>Iu _ 2 x)];rfl)
 ·obtain⟨hF,hm⟩:=rK rfl
  clear hend rK
  have DE:fK s l S 0=S:=by simp[fK]
  (try((repeat(revert hN;revert N;apply Pn.out));refine wk (tw @e8 (tw @c0 @c1)) ?_;(repeat(refine Pn.mk ?_;intro N hN))))
  refine aW (fun n env st=>∃i:Nat,n=(l.length)-i/\i<=(l.length)/\env 9=.int .i64 (i:Int)/\(env 8=.bool (decide ((fK s l S i).1.length≠S.1.length))/\KR ⟨60001004,x1⟩ (fK s l S i) (env 7) st.get st.next/\st.get ⟨60000001,n0⟩=some ⟨true,1,[[.cm]]⟩)) (l.length) ⟨0,by omega,by omega,sl (tw @c0 (tw @c1 (tw @c5 @c6))),by(try dsimp only);exact⟨by rw[DE];simp only[go_sem, ↓reduceIte,Nat.reduceEqDiff,Nat.reduceAdd,Nat.reduceSub,Nat.reduceLeDiff,reduceCtorEq]<;>simp,by rw[DE];exact hL.frame (sd @Nat.zero_add) (by(try dsimp only);omega) fun x _=>rfl,hr5⟩⟩ ?_
  rintro n_b env_b st_b ⟨i,rfl,ble,b9,bI0⟩ fY
  have b0:=fY 0 (by kernel_rfl);have b1:=fY 1 (by kernel_rfl);have b5:=fY 5 (by kernel_rfl);have b6:=fY 6 (by kernel_rfl)
  simp only[go_sem, ↓reduceIte,Nat.reduceEqDiff,Nat.reduceAdd,Nat.reduceSub,Nat.reduceLeDiff,reduceCtorEq,c0,c1,c5,c6]at b0 b1 b5 b6
  clear fY
  obtain⟨b8,bL,Sb⟩:=bI0
  obtain⟨AO,IK,CK⟩:=xp hI hA i (by omega)
  by_cases hi:(i:Int)<(l.length:Int)
  ·have gj:∀{e:Env} {gg:Rows} {nx:Nat},(e 9=.int .i64 (IntKind.i64.wrap ((i:Int)+1)))->(e 8=.bool (decide ((fK s l S (i+1)).1.length≠S.1.length))/\KR ⟨60001004,x1⟩ (fK s l S (i+1)) (e 7) gg nx/\gg ⟨60000001,n0⟩=some ⟨true,1,[[.cm]]⟩)->∃m0,m0<(l.length)-i/\∃i:Nat,m0=(l.length)-i/\i<=(l.length)/\e 9=.int .i64 (i:Int)/\(e 8=.bool (decide ((fK s l S i).1.length≠S.1.length))/\KR ⟨60001004,x1⟩ (fK s l S i) (e 7) gg nx/\gg ⟨60000001,n0⟩=some ⟨true,1,[[.cm]]⟩):=fun x1 x2=>⟨_,by omega,i+1,rfl,by omega,(by rw[x1,az (by omega)]),x2⟩
   have fh:i<l.length:=by omega
   have yF:=qK s l S fh
   have hx:=gH fh
   have ht:=hA.2 _ hx
   have j7:=fw fh
   have QC:=AO.asm hA
   have QI:=Jf s hP _ QC (aJ l i).aQ (aJ l i).aV ht
   have lF:(l.map aa).length=l.length:=by simp
   have TV:=AO.sD
   have TW:=AO.len
   generalize fK s l S i=T at AO QC QI yF TV TW CK b8 bL
   obtain⟨o,u,h1,h2,h3,h4,h5,h6,h7,h8⟩:=bL
   have vo:=dp (i:=o) (n:=st_b.next) (by omega)
   have vu:=dp (i:=u) (n:=st_b.next) (by omega)
   have vX:=dp (i:=⟨60001004,x1⟩) (n:=st_b.next) (by(try dsimp only at h6);(try dsimp only);omega)
   have v5:=dp (i:=⟨60000001,n0⟩) (n:=st_b.next) (by(try dsimp only at h6);(try dsimp only);omega)
   (try((repeat(revert hN;revert N;apply Pn.out));refine wk (tw @b9 (tw @b0 (tw @b1 (tw @b5 (tw @b6 (tw @hi (tw @j7 (tw @lF @aa.eq_1)))))))) ?_;(repeat(refine Pn.mk ?_;intro N hN))))
   refine .inl ⟨_,aq.x QI (by
    have hp:=Fz (g:=bq (bq st_b.get ⟨60009017,st_b.next+1⟩ ⟨true,3,[[.int .i64 0,.int .i64 0,.int .i64 0]]⟩) ⟨60009017,st_b.next+1⟩ ⟨true,3,[[.int .i64 (aJ l i).aQ.eZ,.int .i64 (aJ l i).aQ.eT,.int .i64 (aJ l i).aV]]⟩) (X:=⟨60001004,x1⟩) (o:=o) (L:=T.2) (sd (tw @vX @h1)) (sd (tw @vo @h2))
    simp only[ai,aj,aU,hp,bd,aH,Option.map_some]
    rfl),?_⟩
   refine hN _ _ ?_
   clear hN N
   cases hf:j4 s T.2 (aJ l i).aQ (aJ l i).aV
   ·rw[wC hf]at yF
    (try((repeat(revert hN;revert N;apply Pn.out));refine wk (tw @b9 (tw @b0 (tw @b1 (tw @b5 (tw @b6 (tw @hf @j7)))))) ?_;(repeat(refine Pn.mk ?_;intro N hN))))
    exact gj (sd (tw @b9 (tw @b0 (tw @b1 (tw @b5 @b6))))) (by(try dsimp only);exact⟨by rw[yF];simp only[go_sem, ↓reduceIte,Nat.reduceEqDiff,Nat.reduceAdd,Nat.reduceSub,Nat.reduceLeDiff,reduceCtorEq,b8],by rw[yF];exact(show KR ⟨60001004,x1⟩ T (env_b 7) st_b.get st_b.next from⟨o,u,h1,h2,h3,h4,h5,h6,h7,h8⟩).frame (sd @Nat.zero_add) (by(try dsimp only);omega) (fun y hy=>by
     have h9:=dp hy
     simp only[go_sem, ↓reduceIte,Nat.reduceEqDiff,Nat.reduceAdd,Nat.reduceSub,Nat.reduceLeDiff,reduceCtorEq,h9]),sd (tw @v5 @Sb)⟩)
   ·rw[tV hf]at yF
    (try((repeat(revert hN;revert N;apply Pn.out));refine wk (tw @b9 (tw @b0 (tw @b1 (tw @b5 (tw @b6 (tw @hf @j7)))))) ?_;(repeat(refine Pn.mk ?_;intro N hN))))
    refine .inr (aI _ _ _ _ _ (fun r σ2 hq=>?_) (Nn.val (fun n=>Jd T.2 (by omega) (aJ l i).aQ (aJ l i).aV n) (by
     have hp:=Fz (g:=bq (bq st_b.get ⟨60009017,st_b.next+1⟩ ⟨true,3,[[.int .i64 0,.int .i64 0,.int .i64 0]]⟩) ⟨60009017,st_b.next+1⟩ ⟨true,3,[[.int .i64 (aJ l i).aQ.eZ,.int .i64 (aJ l i).aQ.eT,.int .i64 (aJ l i).aV]]⟩) (X:=⟨60001004,x1⟩) (o:=o) (L:=T.2) (sd (tw @vX @h1)) (sd (tw @vo @h2))
     simp only[ai,aj,hp,bd,aH,Option.map_some]
     rfl)))
    obtain⟨⟨o2,rfl,p1,p2,p3⟩,hK⟩:=hq
    obtain⟨g2,x2⟩:=σ2
    (try dsimp only at p1 p2 p3 hK)
    have Gq:=hK.1
    (try dsimp only at Gq)
    have hXb:x1<st_b.next:=by(try dsimp only at h6);omega
    have kX:=hK.2 ⟨60001004,x1⟩ (by(try dsimp only);omega)
    have k5:=hK.2 ⟨60000001,n0⟩ (by(try dsimp only);omega)
    have ku:=hK.2 u (by(try dsimp only);omega)
    have kt:=hK.2 ⟨60009017,st_b.next+1⟩ (by(try dsimp only);omega)
    simp only[go_sem, ↓reduceIte,Nat.reduceEqDiff,Nat.reduceAdd,Nat.reduceSub,Nat.reduceLeDiff,reduceCtorEq,vX,v5,vu,h1,h4,Sb]at kX k5 ku kt
    have l8:=o9 (aJ l i) T.2
    have hpe:iz T.2 ⟨(aJ l i).aQ,(aJ l i).aV⟩=iz T.2 (aJ l i):=rfl
    rw[hpe]at p1 ⊢
    refine hN _ _ ?_
    clear hN N
    have UU:(T.1.map aa).length=T.1.length:=by simp
    have SU:T.1.length<=16777215:=by omega
    have uX:=cr (a:=⟨60001004,x1⟩) (b:=u) (by(try dsimp only at h6);(try dsimp only);omega)
    have u5:=cr (a:=⟨60000001,n0⟩) (b:=u) (by(try dsimp only at h6);(try dsimp only);omega)
    have Ve:=dp (i:=u) (n:=x2) (by omega)
    have vX2:=dp (i:=⟨60001004,x1⟩) (n:=x2) (by(try dsimp only);omega)
    have v52:=dp (i:=⟨60000001,n0⟩) (n:=x2) (by(try dsimp only);omega)
    have Tb:=dp (i:=⟨60009017,st_b.next+1⟩) (n:=x2) (by(try dsimp only);omega)
    have ut:=cr (a:=u) (b:=⟨60009017,st_b.next+1⟩) (by(try dsimp only);omega)
    (try((repeat(revert hN;revert N;apply Pn.out));refine wk (tw @b9 (tw @b0 (tw @b1 (tw @b5 (tw @b6 (tw @kX (tw @ku (tw @kt (tw @h3 (tw @uX (tw @ut (tw @Ve (tw @vX2 (tw @Tb (tw @UU @SU))))))))))))))) ?_;(repeat(refine Pn.mk ?_;intro N hN))))
    have hd:decide ((T.1++[aJ l i]).length≠S.1.length)=true:=decide_eq_true (by rw[iN];omega)
    have ux:=iN T.1 (aJ l i)
    have rM:=rU T.1 (aJ l i)
    have RS:=dp (i:=o2) (n:=x2) (by omega)
    have uo2:=cr (a:=u) (b:=o2) (by omega)
    have X2:=cr (a:=⟨60001004,x1⟩) (b:=o2) (by(try dsimp only);omega)
    exact gj (sd (tw @b9 (tw @b0 (tw @b1 (tw @b5 @b6))))) (by(try dsimp only);exact⟨by rw[yF,hd]<;>simp only[go_sem, ↓reduceIte,Nat.reduceEqDiff,Nat.reduceAdd,Nat.reduceSub,Nat.reduceLeDiff,reduceCtorEq],by
     rw[yF]
     exact⟨o2,⟨60012003,x2+1⟩,sl (tw @vX2 (tw @uX @l8)),sd (tw @RS (tw @uo2 (tw @X2 @p1))),by rw[ux];simp only[go_sem, ↓reduceIte,Nat.reduceEqDiff,Nat.reduceAdd,Nat.reduceSub,Nat.reduceLeDiff,reduceCtorEq]<;>rfl,by rw[rM];simp only[go_sem, ↓reduceIte,Nat.reduceEqDiff,Nat.reduceAdd,Nat.reduceSub,Nat.reduceLeDiff,reduceCtorEq]<;>rfl,by(try dsimp only);omega,by(try dsimp only);omega,by(try dsimp only);omega,fun e=>by rw[e]at p2;(try dsimp only at p2);omega⟩,sd (tw @v52 (tw @u5 @k5))⟩)
  ·have lE:i=l.length:=by omega
   subst lE
   rw[pw]at AO bL b8 IK
   have qF:=yK hI hA hm
   (try((repeat(revert hN;revert N;apply Pn.out));refine wk (tw @b9 (tw @b0 (tw @b1 (tw @b5 (tw @b6 @hi))))) ?_;(repeat(refine Pn.mk ?_;intro N hN))))
   have Sk:KR ⟨60001004,x1⟩ (gD s l S) (env_b 7) st_b.get st_b.next:=bL
   by_cases he:(gD s l S).1.length=S.1.length
   ·refine⟨0,by show 0<m;omega,gD s l S,0,false,rfl,?_,fun h=>(by cases h),fun _=>(qF.1 he).symm.trans hF,AO,Sk.frame (sd @Nat.zero_add) (by(try dsimp only);omega) fun x _=>rfl,Sb⟩
    simp only[go_sem, ↓reduceIte,Nat.reduceEqDiff,Nat.reduceAdd,Nat.reduceSub,Nat.reduceLeDiff,reduceCtorEq,b8,he]<;>simp
   ·obtain⟨m',rfl,Lh,Hx⟩:=qF.2 he
    refine⟨m',Nat.lt_succ_self _,gD s l S,m',true,rfl,?_,fun _=>⟨Lh.symm.trans hF,Hx⟩,fun h=>(by cases h),AO,Sk.frame (sd @Nat.zero_add) (by(try dsimp only);omega) fun x _=>rfl,Sb⟩
    have hd:=decide_eq_true he
    simp only[go_sem, ↓reduceIte,Nat.reduceEqDiff,Nat.reduceAdd,Nat.reduceSub,Nat.reduceLeDiff,reduceCtorEq,b8]
    rw[hd]
end Go.Proofs.YtgoelphibofcmaaGreat.V

namespace Go.Proofs.YtgoelphibofcmaaGreat.V
open Go.RowKit
attribute [local irreducible] dG wpOps gy Call
attribute [local go_sem] aM fF eP ga fW cQ upd cz K.av cR AV.cells AV.cell rowOf rowsOf part ld rowAt bq cu dD ee ik bJ dh ev fU eX dr ej dd dc dQ dR bQ bf cW bP cY cX eh ek ei cV cj de ef bK aO da cG ij bw cK bU aY dn aZ dE AV.undef bD bG dV ec dM dK cH eu ew cF ep eo cZ db List.getD_cons_zero List.getD_cons_succ List.getD_nil List.all_cons List.all_nil Bool.and_true Bool.true_and Bool.and_self Bool.not_true Bool.not_false Option.map_some Option.map_none Option.bind_some Option.bind_none List.length_cons List.length_nil List.take_succ_cons List.take_zero List.take_nil List.drop_succ_cons List.drop_zero List.drop_nil List.head?_cons List.map_cons List.map_nil List.getElem?_cons_zero List.getElem?_cons_succ List.cons_append List.nil_append List.append_nil List.length_map List.set_cons_zero List.set_cons_succ Nat.reduceMul eq_self Int.toNat_natCast Int.natCast_nonneg and_self true_and and_true decide_true decide_false Bool.false_eq_true Nat.zero_add Nat.add_zero List.contains_cons List.contains_nil Bool.or_false Bool.false_or beq_self_eq_true Nat.reduceBEq ne_eq not_true_eq_false not_false_eq_true Id.mk.injEq false_and and_false Nat.reduceLT Int.reduceLE Int.reduceLT Int.reduceToNat Int.reduceNeg Int.reduceAdd Nat.le_refl List.length_append beq_true beq_false Bool.not_eq_eq_eq_not or_false false_or dL ai aj aH bl bB cw aX bd aU bh cU bH
def S5 (ps:List aD) (i:Nat):aD:=ps.getD i ⟨0,0⟩
theorem JK {ps:List aD} {i:Nat} (h:i<ps.length):S5 ps i=ps[i]:=by simp[S5,List.getD_eq_getElem?_getD,h]
def Qh (ps:List aD):Prop:=ps.Pairwise fun a b=>jJ a b=true
theorem Qh.at_ {ps:List aD} (h:Qh ps) {i j:Nat} (Dw:i<j) (hj:j<ps.length):jJ (S5 ps i) (S5 ps j)=true:=by
 rw[JK hj,JK (by omega)]
 exact List.pairwise_iff_getElem.1 h i j (by omega) hj Dw
end Go.Proofs.YtgoelphibofcmaaGreat.V

namespace Go.Proofs.YtgoelphibofcmaaGreat.V
open Go.RowKit Go.Shelf Go.Lib Go.Sort
instance:Inhabited aD:=⟨⟨0,0⟩⟩
variable {P:Program} {w:World} {D:Nat->Prop} {ι:Names}
theorem JL {vs:Array Value} (h:fe P w D ι [] vs):vs= #[]:=Array.eq_empty_of_size_eq_zero h.1
theorem y9 {a:AV} {r:List AV} {vs:Array Value} (h:fe P w D ι (a::r) vs):∃u us,vs=(u::us).toArray/\cI P w D ι a u/\fe P w D ι r us.toArray:=by
 obtain⟨h1,h2⟩:=h
 obtain⟨l⟩:=vs
 cases l with
 |nil=>simp at h1
 |cons u us=>
  obtain⟨u',hu,hr⟩:=h2 0 a rfl
  simp at hu;subst hu
  exact⟨u,us,rfl,hr,by simpa using h1,fun j b hj=>by
   obtain⟨v,hv,lG⟩:=h2 (j+1) b (by simpa using hj)
   exact⟨v,by simpa using hv,lG⟩⟩
end Go.Proofs.YtgoelphibofcmaaGreat.V

namespace Go.Proofs
open Go.Shelf
def Tryz.Ei:Go.Shelf.Ren:=⟨fun|6=>209|15=>207|14=>235|28=>233|29=>234|20=>252|21=>253|22=>254|23=>255|24=>256|25=>257|26=>258|27=>259|46=>268|47=>248|48=>249|49=>269|50=>270|57=>274|n=>n,fun|22=>39|24=>137|25=>243|3=>3|39=>216|0=>0|53=>268|55=>270|4=>4|46=>262|45=>261|50=>177|5=>5|9=>9|66=>287|70=>291|76=>312|77=>313|n=>n,fun|n=>n⟩
theorem Tryz.JY:Go.Proofs.SlLaysF0.n6 Tryz.prog Tryz.Ei:={
 mixed:=by kernel_rfl
 f6:=⟨Tryz.f209.name,by decide,Tryz.func209.trans (congrArg some (by kernel_rfl))⟩
 f14:=⟨Tryz.f235.name,by decide,Tryz.func235.trans (congrArg some (by kernel_rfl))⟩
 f15:=Tryz.func207.trans (congrArg some (by kernel_rfl))
 f20:=⟨Tryz.f252.name,by decide,Tryz.func252.trans (congrArg some (by kernel_rfl))⟩
 f21:=⟨Tryz.f253.name,by decide,Tryz.func253.trans (congrArg some (by kernel_rfl))⟩
 f22:=⟨Tryz.f254.name,by decide,Tryz.func254.trans (congrArg some (by kernel_rfl))⟩
 f23:=⟨Tryz.f255.name,by decide,Tryz.func255.trans (congrArg some (by kernel_rfl))⟩
 f24:=⟨Tryz.f256.name,by decide,Tryz.func256.trans (congrArg some (by kernel_rfl))⟩
 f25:=⟨Tryz.f257.name,by decide,Tryz.func257.trans (congrArg some (by kernel_rfl))⟩
 f26:=⟨Tryz.f258.name,by decide,Tryz.func258.trans (congrArg some (by kernel_rfl))⟩
 f27:=⟨Tryz.f259.name,by decide,Tryz.func259.trans (congrArg some (by kernel_rfl))⟩
 f28:=Tryz.func233.trans (congrArg some (by kernel_rfl))
 f29:=Tryz.func234.trans (congrArg some (by kernel_rfl))
 f46:=⟨Tryz.f268.name,by decide,Tryz.func268.trans (congrArg some (by kernel_rfl))⟩
 f47:=Tryz.func248.trans (congrArg some (by kernel_rfl))
 f48:=Tryz.func249.trans (congrArg some (by kernel_rfl))
 f49:=⟨Tryz.f269.name,by decide,Tryz.func269.trans (congrArg some (by kernel_rfl))⟩
 f50:=⟨Tryz.f270.name,by decide,Tryz.func270.trans (congrArg some (by kernel_rfl))⟩
 f57:=⟨Tryz.f274.name,by decide,Tryz.func274.trans (congrArg some (by kernel_rfl))⟩
 t0:=Tryz.underlying0
 a0:=Tryz.isAgg0
 z0:=Tryz.sizeOf0
 v0:=Tryz.zeroValue0
 t3:=Tryz.underlying3
 a3:=Tryz.isAgg3
 z3:=Tryz.sizeOf3
 v3:=Tryz.zeroValue3
 t4:=Tryz.underlying4
 a4:=Tryz.isAgg4
 z4:=Tryz.sizeOf4
 v4:=Tryz.zeroValue4
 t5:=Tryz.underlying5
 a5:=Tryz.isAgg5
 z5:=Tryz.sizeOf5
 v5:=Tryz.zeroValue5
 t9:=Tryz.underlying9
 a9:=Tryz.isAgg9
 z9:=Tryz.sizeOf9
 v9:=Tryz.zeroValue9
 t22:=Tryz.underlying39
 a22:=Tryz.isAgg39
 z22:=Tryz.sizeOf39
 v22:=Tryz.zeroValue39
 t25:=Tryz.underlying243
 a25:=Tryz.isAgg243
 z25:=Tryz.sizeOf243
 v25:=Tryz.zeroValue243
 t39:=Tryz.underlying216
 a39:=Tryz.isAgg216
 z39:=Tryz.sizeOf216
 v39:=Tryz.zeroValue216
 t45:=Tryz.underlying261
 a45:=Tryz.isAgg261
 z45:=Tryz.sizeOf261
 v45:=Tryz.zeroValue261
 t46:=Tryz.underlying262
 a46:=Tryz.isAgg262
 z46:=Tryz.sizeOf262
 v46:=Tryz.zeroValue262
 t50:=Tryz.underlying177
 a50:=Tryz.isAgg177
 z50:=Tryz.sizeOf177
 v50:=Tryz.zeroValue177
 t53:=Tryz.underlying268
 a53:=Tryz.isAgg268
 z53:=Tryz.sizeOf268
 v53:=Tryz.zeroValue268
 t55:=Tryz.underlying270
 a55:=Tryz.isAgg270
 z55:=Tryz.sizeOf270
 v55:=Tryz.zeroValue270
 t66:=Tryz.underlying287
 a66:=Tryz.isAgg287
 z66:=Tryz.sizeOf287
 v66:=Tryz.zeroValue287
 t70:=Tryz.underlying291
 a70:=Tryz.isAgg291
 z70:=Tryz.sizeOf291
 v70:=Tryz.zeroValue291
 t76:=Tryz.underlying312
 a76:=Tryz.isAgg312
 z76:=Tryz.sizeOf312
 v76:=Tryz.zeroValue312
 t77:=Tryz.underlying313
 a77:=Tryz.isAgg313
 z77:=Tryz.sizeOf313
 v77:=Tryz.zeroValue313}
end Go.Proofs

namespace Go.Proofs.YtgoelphibofcmaaGreat.V
open Go.RowKit Go.Shelf Go.Lib Go.Sort
theorem Bh (w:World) (a b:Int):Calls Tryz.prog 178 #[.int .i64 a,.int .i64 b] w fun e w'=>e=.returned (.int .i64 (rF a b))/\w=w':=by
 go_enter Tryz.func178,Tryz.ntmps178
 go_wp2_with go_in
 all_goals
  go_ret
  exact⟨FB (by unfold rF;split<;>(try split)<;>omega),rfl⟩
theorem L6 (w:World) (a b:Int) (g:Nat) (ha:w.cell? ⟨g,0,none⟩=some (.int .i64 a)) (hb:w.cell? ⟨g,1,none⟩=some (.int .i64 b)):Calls Tryz.prog 177 #[.slice (some ⟨g,0,none⟩) 2 2] w fun e w'=>e=.returned (.int .i64 (L7 a b))/\w=w':=by
 go_enter Tryz.func177,Tryz.ntmps177
 go_wp2_with fail
 go_loop [8] (fun i=>∃k:Nat,k<=2/\i=.int .i64 k/\Hid ((1<=k->a=0)/\(2<=k->b=0))) (fun i=>2-(intOf i).toNat)
 case atStart=>exact⟨0,by omega,rfl,Lib.hid ⟨fun h=>by omega,fun h=>by omega⟩⟩
 case round=>
  obtain⟨k,hk,rfl,hz⟩:=hrel
  have h3:k=0∨k=1∨k=2:=by omega
  rcases h3 with rfl|rfl|rfl
  ·go_wp2_with fail
   ·rename_i h
    go_ret
    exact⟨FB (by unfold L7;simp_all),rfl⟩
   ·rename_i h
    go_round
    case rel=>exact⟨1,by omega,rfl,Lib.hid ⟨fun _=>by simpa using h,fun h=>by omega⟩⟩
    case measure=>simp[intOf]
  ·have h0:=hz.out.1 (by omega)
   replace h0:=Lib.hid h0
   go_wp2_with fail
   ·go_ret
    exact⟨FB (by unfold L7;rw[if_pos h0.out]),rfl⟩
   ·rename_i h
    go_round
    case rel=>exact⟨2,by omega,rfl,Lib.hid ⟨fun _=>h0.out,fun _=>by simpa using h⟩⟩
    case measure=>simp[intOf]
  ·have h0:=Lib.hid (hz.out.1 (by omega))
   have h1:=Lib.hid (hz.out.2 (by omega))
   go_wp2_with fail
   go_ret
   exact⟨FB (by unfold L7;rw[if_pos h0.out,h1.out]),rfl⟩
def Grown (w w':World):Prop:=∃(q:Nat) (os:Array Obj),w'=Go.Sort.grow (w.drewN q) os
theorem Grown.refl (w:World):Grown w w:=⟨0, #[],by rw[grow_empty];rfl⟩
theorem Grown.alloc {w w':World} (h:Grown w w') (o:Obj):Grown w (w'.alloc o):=by
 obtain⟨q,os,rfl⟩:=h
 exact⟨q,os++ #[o],by rw[alloc_eq_grow,grow_grow]⟩
theorem Grown.drew {w w':World} (h:Grown w w'):Grown w w'.drew:=by
 obtain⟨q,os,rfl⟩:=h
 exact⟨q+1,os,by rw[drew_grow];rfl⟩
theorem Grown.dN {w w':World} (h:Grown w w') (n:Nat):Grown w (w'.drewN n):=by
 obtain⟨q,os,rfl⟩:=h
 exact⟨q+n,os,by
  show Go.Sort.grow ((w.drewN q).drewN n) os=Go.Sort.grow (w.drewN (q+n)) os
  simp[World.drewN,Nat.add_assoc]⟩
theorem um (w:World) (a b:aD):Calls Tryz.prog 130 #[.agg #[.int .i64 a.eZ,.int .i64 a.eT],.agg #[.int .i64 b.eZ,.int .i64 b.eT]] w fun e w'=>e=.returned (.int .i64 (rG a b))/\Grown w w':=by
 go_enter Tryz.func130,Tryz.ntmps130
 go_wp2_with fail
 go_region_held3 (fun w'=>w'.cell? ⟨w.heap.size,0,none⟩=some (.int .i64 a.eZ)/\w'.cell? ⟨w.heap.size,1,none⟩=some (.int .i64 a.eT)/\
   w'.cell? ⟨w.heap.size+1,0,none⟩=some (.int .i64 b.eZ)/\w'.cell? ⟨w.heap.size+1,1,none⟩=some (.int .i64 b.eT))
  (first|go_keep)
  (first|(go_at_call 178;refine(Bh _ _ _).mono ?_;rintro e w' ⟨rfl,rfl⟩)|(go_at_call 177;refine(L6 _ (rF a.eT b.eT) (rF a.eZ b.eZ) _ (by simp[go_sem]) (by simp[go_sem])).mono ?_;rintro e w' ⟨rfl,rfl⟩))
 go_wp2_with fail
 go_ret
 refine⟨rfl,?_⟩
 repeat(first|(with_reducible exact Grown.refl _)|(refine Grown.alloc ?_ _)|(refine Grown.drew ?_)|(refine Grown.dN ?_ _))
end Go.Proofs.YtgoelphibofcmaaGreat.V

namespace Go.Proofs.YtgoelphibofcmaaGreat.V
open Go.RowKit Go.Shelf Go.Lib Go.Sort
instance:Inhabited ad:=⟨⟨⟨0,0⟩,0⟩⟩
variable {P:Program} {w:World} {D:Nat->Prop} {ι:Names}
def FX (a b:ad):Int:=rG a.aQ b.aQ
theorem uF (a b:ad):ltOf FX a b=jJ a.aQ b.aQ:=by rw[ltOf,FX,uG]
def HQ:Prop:=∀(xH off cap:Nat) (d:Array ad) (w:World),HoldsK eV 3 w xH off d->xH<w.heap.size->d.size<4611686018427387904->
 Calls Tryz.prog 209 #[.slice (some ⟨xH,off,none⟩) d.size cap,.func (.func 210) #[] #[]] w fun e w'=>e=.returned (.tuple #[])/\∃d' n os,PermIn 0 d.size d d'/\SortedIn (ltOf FX) 0 d.size d'/\w'=sortWorldK eV 3 w xH off n d' os
def HR:Prop:=∀(p:Option Addr) (cap:Nat) (fv:Value) (w:World),Calls Tryz.prog 209 #[.slice p 0 cap,fv] w fun e w'=>e=.returned (.tuple #[])/\w'=w
theorem Ig (p:ad) (j:Nat) (a:AV) (h:(aa p)[j]? =some a) (P:Program) (w:World) (D:Nat->Prop) (ι:Names):cI P w D ι a (eV p)[j]! :=by
 match j,h with
 |0,h=>simp[aa]at h;subst h;exact .eM _ _ (.int _ _)
 |1,h=>simp[aa]at h;subst h;exact .eM _ _ (.int _ _)
 |2,h=>simp[aa]at h;subst h;exact .eM _ _ (.int _ _)
 |j+3,h=>simp[aa]at h
theorem G9 (hC:HQ) (hN:HR) (ps:List ad) (hlen:ps.length<=1048576) (σ:ar) (id:Id) (hg:σ.get id=some ⟨true,3,ps.map aa⟩):
  Call Tryz.prog 209 [.own id 0 ps.length,.fn 210 []] σ fun r σ'=>σ'.next=σ.next/\(∀x,x≠id->σ'.get x=σ.get x)/\∃qs,σ'.get id=some ⟨true,3,qs.map aa⟩/\qs.length=ps.length/\qs.Perm ps/\∀i j:Nat,i<j->j<qs.length->jJ (aJ qs j).aQ (aJ qs i).aQ=false:=by
 refine gN fun hs D ι w vs S U A=>?_
 obtain⟨u1,us1,rfl,h1,h2⟩:=y9 A
 obtain⟨u2,us2,h3,h4,h5⟩:=y9 h2
 simp at h3;subst h3
 have:=JL h5
 simp at this;subst this
 obtain⟨o,cap,B,rfl,hB,IA,ho,sZ,hmax,hk⟩:=iQ h1
 obtain⟨Vd,gf,rfl,_,hz,_,_⟩:=Ai h4
 have hz':Vd= #[]:=Array.eq_empty_of_size_eq_zero (by simpa using hz)
 subst hz'
 by_cases h0:ps=[]
 ·subst h0
  refine(hN _ _ _ w).mono ?_
  rintro e w' ⟨rfl,rfl⟩
  exact⟨.gJ [],σ.get,σ.next,D,ι,_,rfl,⟨rfl,fun _ _=>rfl,[],hg,rfl,List.Perm.refl _,fun i j _ hj=>by simp at hj⟩,Step.refl _ _ _ _,S,U,Nat.le_refl _,.gJ [] #[] (fun _=>Go.undef) rfl (fun j hj=>by simp at hj) (fun j a h=>by simp at h)⟩
 have jN:0<ps.length:=List.length_pos_iff.2 h0
 obtain⟨B',dz,R,ki,mm⟩:=S.row id _ hg
 rw[hB]at dz;injection dz with dz;subst dz
 replace R:=R.row hk
 have fj:B.sz=3:=R.sz
 have CN:o=0:=by rcases ho with h|h<;>omega
 subst CN
 obtain⟨cur,T,hblk,du,E6⟩:=R.cur
 have BC:ps.length*3<=B.C:=by simpa using R.fits
 have hH:HoldsK eV 3 w B.b 0 ps.toArray:=by
  intro t ht
  rw[size_flatK]at ht
  have ht2:t<ps.length*3:=by simpa using ht
  have hi:t / 3<ps.length:=by omega
  have CJ:w.frozen? ⟨B.b,0+t,none⟩=false:=by
   simp only[World.frozen?,hblk];simp
  refine⟨?_,CJ⟩
  rw[get_flatK _ _ _ _ ht]
  have hd:(ps.toArray)[t / 3]! =ps[t / 3]:=by simp[getElem!_pos,hi]
  rw[hd]
  have hj:t % 3=0∨t % 3=1∨t % 3=2:=by omega
  have ht3:0+t=(t / 3)*3+t % 3:=by omega
  rw[ht3]
  rcases hj with hj|hj|hj
  ·obtain⟨v,hv,hr⟩:=R.at_ (t / 3) 0 (aa ps[t / 3]) _ (by simp[hi]) rfl
   rw[dq hr]at hv
   rw[hj];exact hv
  ·obtain⟨v,hv,hr⟩:=R.at_ (t / 3) 1 (aa ps[t / 3]) _ (by simp[hi]) rfl
   rw[dq hr]at hv
   rw[hj];exact hv
  ·obtain⟨v,hv,hr⟩:=R.at_ (t / 3) 2 (aa ps[t / 3]) _ (by simp[hi]) rfl
   rw[dq hr]at hv
   rw[hj];exact hv
 have qc:B.b<w.heap.size:=(Array.getElem?_eq_some_iff.1 hblk).1
 have QK:=hC B.b 0 cap ps.toArray w hH qc (by simp;omega)
 rw[show ps.toArray.size=ps.length from by simp]at QK
 refine QK.mono ?_
 rintro e w' ⟨rfl,d',m,os,⟨Fi,_,Fe⟩,hsort,rfl⟩
 have QQ:d'.size=ps.length:=by rw[Fi];simp
 have hql:d'.toList.length=ps.length:=by simpa using QQ
 have hP:d'.toList.Perm ps:=by
  have e1:d'.extract 0 ps.length=d':=by rw[<-QQ];exact Array.extract_size
  have e2:ps.toArray.extract 0 ps.length=ps.toArray:=by
   have:ps.length=ps.toArray.size:=by simp
   rw[this];exact Array.extract_size
  rw[e1,e2]at Fe
  simpa using Fe
 have hF:∀t,t<ps.length*3->(flatK eV 3 d')[t]! =(eV d'[t / 3]!)[t % 3]! :=fun t ht=>get_flatK _ _ _ _ (by rw[QQ];exact ht)
 have hFs:(flatK eV 3 d').size=ps.length*3:=by rw[size_flatK,QQ]
 have hw:sortWorldK eV 3 w B.b 0 m d' os=Go.Sort.grow (Go.Sort.putRow (fun v:Value=>v) (Go.Sort.ahead w m) B.b 0 (flatK eV 3 d')) os:=rfl
 rw[hw]
 clear hw hH
 generalize flatK eV 3 d'=Fl at hF hFs ⊢
 have wo:=S.put (r':=⟨true,3,d'.toList.map aa⟩) (cur':=Go.Sort.putCells (fun v:Value=>v) 0 Fl cur) hg rfl hB hblk (by simp[Go.Sort.putCells]) rfl rfl (by simpa[QQ]using BC) (fun cs du=>by
   obtain⟨x,_,rfl⟩:=List.mem_map.1 du;rfl) (fun cs du a ha=>by
   obtain⟨x,_,rfl⟩:=List.mem_map.1 du
   simp[aa]at ha;rcases ha with rfl|rfl|rfl<;>rfl) (fun i j cs a hi hj=>by
   have yy:i<d'.toList.length:=by
    have:=(List.getElem?_eq_some_iff.1 hi).1
    simpa using this
   have Up:j<3:=by
    have:=List.mem_of_getElem? hi
    obtain⟨x,_,rfl⟩:=List.mem_map.1 this
    exact(List.getElem?_eq_some_iff.1 hj).1
   have Uc:cs=aa d'[i]! :=by
    rw[List.getElem?_map,List.getElem?_eq_getElem yy]at hi
    simp at hi
    rw[<-hi,getElem!_pos d' i (by simpa using yy)]
   subst Uc
   have OE:i*3+j<ps.length*3:=by omega
   refine⟨(eV d'[i]!)[j]!,?_,Ig _ _ _ hj _ _ _ _⟩
   have nS:i*3+j<cur.size:=by rw[du];omega
   show(Go.Sort.putCells (fun v:Value=>v) 0 Fl cur)[i*3+j]? = _
   simp only[Go.Sort.putCells,Array.getElem?_mapIdx,Array.getElem?_eq_getElem nS,Option.map_some]
   rw[if_pos ⟨Nat.zero_le _,by rw[hFs];omega⟩,Nat.sub_zero,hF _ OE,show(i*3+j) / 3=i from by omega,show(i*3+j) % 3=j from by omega])
 obtain⟨S1,sJ⟩:=wo
 have Rf:(Go.Sort.putRow (fun v:Value=>v) (Go.Sort.ahead w m) B.b 0 Fl).heap.size=w.heap.size:=by simp
 have MS:∀k,k<(w.setRow B.b (Go.Sort.putCells (fun v:Value=>v) 0 Fl cur)).heap.size->(Go.Sort.grow (Go.Sort.putRow (fun v:Value=>v) (Go.Sort.ahead w m) B.b 0 Fl) os).heap[k]? =(w.setRow B.b (Go.Sort.putCells (fun v:Value=>v) 0 Fl cur)).heap[k]? :=fun k hk=>by
  have Gn:k<w.heap.size:=by simpa using hk
  rw[heap_grow_old _ _ (by rw[Rf];exact Gn)]
  simp only[Go.Sort.putRow,Go.Sort.mapBlock,heap_ahead,Array.getElem?_modify]
  by_cases Uq:B.b=k
  ·subst Uq
   rw[setRow_heap w B.b cur _ T _ hblk,if_pos rfl,hblk];rfl
  ·rw[if_neg Uq,setRow_other w B.b k _ (fun h=>Uq h.symm)]
 have lI:(w.setRow B.b (Go.Sort.putCells (fun v:Value=>v) 0 Fl cur)).heap.size<=(Go.Sort.grow (Go.Sort.putRow (fun v:Value=>v) (Go.Sort.ahead w m) B.b 0 Fl) os).heap.size:=by
  rw[size_grow,Rf];simp
 have S2:=S1.stay (D':=D) (ι':=ι) MS lI (fun _ h=>h) (fun b hb=>Nat.lt_of_lt_of_le (S1.dead b hb) lI) (fun _ h=>.inl h) (fun _ _ h=>h)
 have Nr:=sJ.trans (Step.stay (D':=D) (ι':=ι) S1 MS lI (by simp[Go.Sort.grow,Go.Sort.putRow,Go.Sort.mapBlock,Go.Sort.ahead]) (by simp[Go.Sort.grow,Go.Sort.putRow,Go.Sort.mapBlock,Go.Sort.ahead]) (by simp[Go.Sort.grow,Go.Sort.putRow,Go.Sort.mapBlock,Go.Sort.ahead]) (fun _ h=>h) (fun _ h=>.inl h) (fun _ _ h=>h))
 refine⟨.gJ [],bq σ.get id ⟨true,3,d'.toList.map aa⟩,σ.next,D,ι,_,rfl,⟨rfl,fun x hx=>by simp[bq,hx],d'.toList,by simp[bq],hql,hP,fun i j Dw hj=>?_⟩,Nr,S2,U,Nat.le_refl _,.gJ [] #[] (fun _=>Go.undef) rfl (fun j hj=>by simp at hj) (fun j a h=>by simp at h)⟩
 have h:=hsort i j (Nat.zero_le _) Dw (by omega)
 rw[uF]at h
 have e1:d'[j]! =aJ d'.toList j:=by rw[fb hj,getElem!_pos d' j (by simpa using hj)];rfl
 have hi:i<d'.toList.length:=by omega
 have e2:d'[i]! =aJ d'.toList i:=by rw[fb hi,getElem!_pos d' i (by simpa using hi)];rfl
 rw[<-e1,<-e2];exact h
theorem Nk {w w':World} (h:Grown w w') (os:Array Obj):Grown w (Go.Sort.grow w' os):=by
 obtain⟨q,os0,rfl⟩:=h
 exact⟨q,os0++os,by rw[grow_grow]⟩
theorem K2 (w:World) (a b:ad):Calls Tryz.prog 210 #[.agg #[.int .i64 a.aQ.eZ,.int .i64 a.aQ.eT,.int .i64 a.aV],.agg #[.int .i64 b.aQ.eZ,.int .i64 b.aQ.eT,.int .i64 b.aV]] w fun e w'=>e=.returned (.int .i64 (FX a b))/\Grown w w':=by
 go_enter Tryz.func210,Tryz.ntmps210
 go_wp2_with (first|(go_at_call 130;refine(um _ a.aQ b.aQ).mono ?_;rintro e w' ⟨rfl,hG⟩))
 obtain⟨q,os,rfl⟩:=hG
 go_ret
 refine⟨rfl,Nk (Grown.dN ?_ q) os⟩
 repeat(first|(with_reducible exact Grown.refl _)|(refine Grown.alloc ?_ _)|(refine Grown.drew ?_)|(refine Grown.dN ?_ _))
theorem Vc:SWO (ltOf FX) where
 irrefl x:=by rw[uF];exact nh
 trans x y z h1 h2:=by rw[uF]at *;exact jQ h1 h2
 ntrans x y z h1 h2:=by rw[uF]at *;rw[pC]at *;omega
theorem O7:HQ:=fun xH off cap d w hH hblk fj=>by
 have eg:∀args w,(callFunc 210 args).run Tryz.prog w=.ok (.enter 210 args) w:=enters_of Tryz.func210 (by kernel_rfl) rfl
 have h:=AnyQ.slices_SortFunc Tryz.JY 3 Tryz.isAgg137 Tryz.sizeOf137 eV (fun _=>rfl) (fun x v hv=>by simp[eV]at hv;rcases hv with rfl|rfl|rfl<;>rfl) FX Vc 210 #[] xH off cap d w eg (fun m os dk _ x y=>(K2 _ x y).mono fun _ _ ⟨he,q,os',hw⟩=>⟨he,q,os',hw⟩) hH hblk fj
 exact h
theorem O8:HR:=fun p cap fv w=>AnyF.slices_SortFunc_none Tryz.JY p cap fv w
end Go.Proofs.YtgoelphibofcmaaGreat.V

namespace Go.Proofs.YtgoelphibofcmaaGreat.V
open Go.RowKit
attribute [local irreducible] dG wpOps gy Call
attribute [local go_sem] aM fF eP ga fW cQ upd cz K.av cR AV.cells AV.cell rowOf rowsOf part ld rowAt bq cu dD ee ik bJ dh ev fU eX dr ej dd dc dQ dR bQ bf cW bP cY cX eh ek ei cV cj de ef bK aO da cG ij bw cK bU aY dn aZ dE AV.undef bD bG dV ec dM dK cH eu ew cF ep eo cZ db List.getD_cons_zero List.getD_cons_succ List.getD_nil List.all_cons List.all_nil Bool.and_true Bool.true_and Bool.and_self Bool.not_true Bool.not_false Option.map_some Option.map_none Option.bind_some Option.bind_none List.length_cons List.length_nil List.take_succ_cons List.take_zero List.take_nil List.drop_succ_cons List.drop_zero List.drop_nil List.head?_cons List.map_cons List.map_nil List.getElem?_cons_zero List.getElem?_cons_succ List.cons_append List.nil_append List.append_nil List.length_map List.set_cons_zero List.set_cons_succ Nat.reduceMul eq_self Int.toNat_natCast Int.natCast_nonneg and_self true_and and_true decide_true decide_false Bool.false_eq_true Nat.zero_add Nat.add_zero List.contains_cons List.contains_nil Bool.or_false Bool.false_or beq_self_eq_true Nat.reduceBEq ne_eq not_true_eq_false not_false_eq_true Id.mk.injEq false_and and_false Nat.reduceLT Int.reduceLE Int.reduceLT Int.reduceToNat Int.reduceNeg Int.reduceAdd Nat.le_refl List.length_append beq_true beq_false Bool.not_eq_eq_eq_not or_false false_or dL ai aj aH bl bB cw aX bd aU bh cU bH
theorem RH {σ:ar} {c T O:Id} {s:aA} {ts:List ad} (h:lR σ.get σ.next c T O s ts) (hS:iF s.aE) (hF:∀q,0<=gC ts q->eL s.aE (gC ts q)=true) (p:aD) (hp:Cj p=true) (t:Int) (ht:eL s.aE t=true) (h0:eD ts p<0):
  Call Tryz.prog 134 [.ptr c 0 0,.agg (ae p),.int .i64 t] σ (fun r σ'=>r=.gJ []/\lR σ'.get σ'.next c T O s (ts++[⟨p,t⟩])/\σ.next<=σ'.next/\∀x:Id,x.ck<σ.next->x≠T->x≠O->σ'.get x=σ.get x):=by
 refine eU eC rfl fun ml=>?_
 clear ml
 obtain⟨hx,hy⟩:=tj hp
 have lk:=lK.1 h0
 have Lh:∀q,0<=gC (ts++[⟨p,t⟩]) q->eL s.aE (gC (ts++[⟨p,t⟩]) q)=true:=fun q hq=>by
  rw[zt q lk]at hq ⊢
  split at hq
  ·rename_i he;rw[if_pos he];exact ht
  ·rename_i he;rw[if_neg he];exact hF q hq
 obtain⟨rows,ho,hw⟩:=h.op
 obtain⟨fi,Gl⟩:=Ci hw p.eZ p.eT
 have h1:=h.row
 have h2:=h.tl
 have v1:=dp h.cv
 have v2:=dp h.tv
 have v3:=dp h.ov
 have hm:=qQ h0
 have cT:=eq_false h.cT
 have cO:=eq_false h.cO
 have TO:=eq_false h.TO
 have Tc:=eq_false (fun e:T=c=>h.cT e.symm)
 have Oc:=eq_false (fun e:O=c=>h.cO e.symm)
 have OT:=eq_false (fun e:O=T=>h.TO e.symm)
 (try((repeat(revert hN;revert N;apply Pn.out));refine wk (tw @h1 (tw @h2 (tw @ho (tw @v1 (tw @v2 (tw @v3 (tw @hm (tw @Gl (tw @cT (tw @cO (tw @TO (tw @Tc (tw @Oc (tw @OT @ae.eq_1)))))))))))))) ?_;(repeat(refine Pn.mk ?_;intro N hN))))
 have hG:∀x:Id,x.ck<σ.next->x≠T->x≠O->(bq (bq (bq σ.get ⟨134000000,σ.next⟩ ⟨true,2,[[.int .i64 p.eZ,.int .i64 p.eT]]⟩) T ⟨true,mP.pG,ts.map aa++[[.int .i64 p.eZ,.int .i64 p.eT,.int .i64 t]]⟩) O ⟨true,mP.pG,dK rows fi⟩) x=σ.get x:=fun x OI U0 M5=>by
  have a1:=eq_false U0
  have a2:=eq_false M5
  have a3:=dp OI
  simp only[go_sem, ↓reduceIte,Nat.reduceEqDiff,Nat.reduceAdd,Nat.reduceSub,Nat.reduceLeDiff,reduceCtorEq,a1,a2,a3]
 have hC:lR (bq (bq (bq σ.get ⟨134000000,σ.next⟩ ⟨true,2,[[.int .i64 p.eZ,.int .i64 p.eT]]⟩) T ⟨true,mP.pG,ts.map aa++[[.int .i64 p.eZ,.int .i64 p.eT,.int .i64 t]]⟩) O ⟨true,mP.pG,dK rows fi⟩) (σ.next+1+1+1+1) c T O s (ts++[⟨p,t⟩]):=
  ⟨(hG c h.cv h.cT h.cO).trans h1,by simp only[go_sem, ↓reduceIte,Nat.reduceEqDiff,Nat.reduceAdd,Nat.reduceSub,Nat.reduceLeDiff,reduceCtorEq,TO];rw[List.map_append];rfl,⟨_,sd @Nat.zero_add,JF hw fi⟩,by have:=h.cv;omega,by have:=h.tv;omega,by have:=h.ov;omega,h.cT,h.cO,h.TO⟩
 refine .inr (aI _ _ _ _ _ (fun r σ1 hq=>?_) (rR (σ:=⟨_,σ.next+1+1+1+1⟩) hC.xw hC.cO hC.TO hC.op hS Lh p hx hy))
 obtain⟨g1,x1⟩:=σ1
 obtain⟨rfl,hL⟩:=hq
 (try dsimp only at hL)
 have Ix:=hC.look (σ:=⟨_,σ.next+1+1+1+1⟩) hL
 have hn:=hL.1
 have hf:=hL.2.1
 (try dsimp only at hn hf)
 refine hN _ _ ?_
 clear hN N
 (try((repeat(revert hN;revert N;apply Pn.out));refine wk @Nat.zero_add ?_;(repeat(refine Pn.mk ?_;intro N hN))))
 exact fx (.inr rfl) (vs:=[]) rfl ⟨rfl,Ix.frame (by(try dsimp only);omega) fun _ _=>rfl,by(try dsimp only);omega,fun x OI U0 M5=>(hf x (by omega) M5).trans (hG x OI U0 M5)⟩
end Go.Proofs.YtgoelphibofcmaaGreat.V

namespace Go.Proofs.YtgoelphibofcmaaGreat.V
open Go.RowKit
def Co (m:MK) (it nx ok en:Nat) (id:Id) (B:(Ex->Env->ar->Prop)->Env->ar->Prop) (b b1:Nat) (Q:Ex->Env->ar->Prop):Nat->List (List AV)->Env->ar->Prop
 |0,_,env,σ=>env it=.ptr id 0 0/\Q .normal (upd (upd env (some nx) (.gJ [.bool false])) (some ok) (.bool false)) ⟨σ.get,σ.next+1⟩
 |n+1,left,env,σ=>env it=.ptr id 0 0/\∀i cs kv vv,left[i]? =some cs->part m.ka m.ks cs=some kv->cs[m.ks]? =some vv->
   B (aZ b1 (dn (Co m it nx ok en id B b b1 Q n (left.eraseIdx i)) (aZ b Q))) (upd (upd (upd env (some nx) (.gJ [.bool true,kv,vv])) (some ok) (.bool true)) (some en) (.gJ [kv,vv])) ⟨σ.get,σ.next+1⟩
def G5 (m:MK) (tm:O) (site it nx ok en:Nat) (B:(Ex->Env->ar->Prop)->Env->ar->Prop) (b b1:Nat) (Q:Ex->Env->ar->Prop) (env:Env) (σ:ar):Prop:=
 ∃id r,cQ env tm=.map id m/\σ.get id=some r/\r.w=true/\Co m it nx ok en ⟨site,σ.next⟩ B b b1 Q r.rows.length r.rows (upd env (some it) (.ptr ⟨site,σ.next⟩ 0 0)) ⟨bq σ.get id {r with w:=false},σ.next+1⟩
variable {P:Program} {w w':World} {D D':Nat->Prop} {ι ι':Names} {hs:Nat} {g:Rows}
theorem jF.Di (hc:∀b x,D b->w'.cell? ⟨b,x,none⟩=w.cell? ⟨b,x,none⟩) {a:AV} {v:Value} (h:jF P w D a v):jF P w' D a v:=by
 induction h with
 |int k n=>exact .int k n
 |bool b=>exact .bool b
 |str s=>exact .str s
 |cm=>exact .cm
 |gR=>exact .gR
 |iW=>exact .iW
 |jj=>exact .jj
 |AU a c h=>exact .AU a c h
 |sl rows b o n c sz vs h1 h2 h3 h4 h5 h5' h6 _ ih=>exact .sl rows b o n c sz vs h1 h2 h3 h4 h5 h5' (fun i j hi hj=>(hc b _ h4).trans (h6 i j hi hj)) ih
 |di cs b o vs h1 NT h2 _ ih=>exact .di cs b o vs h1 NT (fun j hj=>(hc b _ h1).trans (h2 j hj)) ih
 |agg cs vs f h1 h2 h3 _ ih=>exact .agg cs vs f h1 h2 h3 ih
 |fn f cL vs g h1 h2 h3 _ ih=>exact .fn f cL vs g h1 h2 h3 ih
theorem cI.Di (hc:∀b x,D b->w'.cell? ⟨b,x,none⟩=w.cell? ⟨b,x,none⟩) {a:AV} {v:Value} (h:cI P w D ι a v):cI P w' D ι a v:=by
 induction h with
 |eM a v h=>exact .eM a v (h.Di hc)
 |map id m B h1 h2=>exact .map id m B h1 h2
 |rE id c B h1 h2=>exact .rE id c B h1 h2
 |own id off len o cap B h1 h2 h3 h4 h5 h6=>exact .own id off len o cap B h1 h2 h3 h4 h5 h6
 |ptr id i off B h1 h2=>exact .ptr id i off B h1 h2
 |agg cs vs f h1 h2 h3 _ ih=>exact .agg cs vs f h1 h2 h3 ih
 |gJ cs vs f h1 h2 _ ih=>exact .gJ cs vs f h1 h2 ih
 |fn f cL vs g h1 h2 h3 _ ih=>exact .fn f cL vs g h1 h2 h3 ih
 |tY f cL vs g h1 h2 h3 _ ih=>exact .tY f cL vs g h1 h2 h3 ih
def mO (w:World) (rr:Nat):Prop:=∃m s seen c,w.heap[rr]? =some (.mapIter m s seen c)
theorem mO.cell {rr:Nat} (h:mO w rr) (x:Nat):w.cell? ⟨rr,x,none⟩=none:=by
 obtain⟨m,s,seen,c,h⟩:=h
 simp[World.cell?,h]
theorem gM.Jy {B:sC} {r:Row} (R:gM P w D ι B r):¬mO w B.b:=by
 rintro⟨m,s,seen,c,h⟩
 cases hk:B.k with
 |none=>obtain⟨c',T,h3,_⟩:=(R.row hk).xH;rw[h]at h3;cases h3
 |some k=>
  cases k with
  |map m=>obtain⟨_,es,c',h3,_⟩:=R.map m hk;rw[h]at h3;cases h3
  |chan c=>obtain⟨_,buf,s',q,h3,_⟩:=R.chan c hk;rw[h]at h3;cases h3
theorem yM {rr:Nat} (h:mO w rr) (h':mO w' rr) (ho:∀b,b≠rr->w'.heap[b]? =w.heap[b]?):(∀{a v},cI P w D ι a v->cI P w' D ι a v):=fun hr=>hr.Di fun b x _=>by
 by_cases hb:b=rr
 ·subst hb;rw[h.cell,h'.cell]
 ·exact World.cell?_of_block (ho b hb)
theorem gw.iter {rr:Nat} (S:gw P hs D ι g w) (h:mO w rr) (h':mO w' rr) (ho:∀b,b≠rr->w'.heap[b]? =w.heap[b]?) (hz:w'.heap.size=w.heap.size):gw P hs D ι g w':=
 ⟨by rw[hz];exact S.lo,fun b hb=>by rw[hz];exact S.dead b hb,fun id r hg=>by
  obtain⟨B,hB,R,k1,k2⟩:=S.row id r hg
  exact⟨B,hB,R.frame (ho _ fun e=>R.Jy (e▸h)) fun a v hr=>yM h h' ho hr,k1,k2⟩,S.inj⟩
theorem mM {ops:Array Oper} {Q:Exit->Act->World->Prop} {a:Act} {o:Oper} {l:List Oper} {v:Value} (hg:o.guard=none) (gh:(execOp a.eval o).run P w=.ok (.value v) w') (h:wpList P ops Q l (a.put o.dst v) w'):wpList P ops Q (o::l) a w:=by
 unfold wpList
 rw[if_pos (by simp[Region.wanted,hg])]
 exact .inl (by unfold Oper.wp;rw[gh];exact h)
theorem JO {x y:AV} {u v:Value} (h1:cI P w D ι x u) (h2:cI P w D ι y v):cI P w D ι (.gJ [x,y]) (.tuple #[u,v]):=
 .gJ _ _ (fun j=>if j=0 then u else v) rfl (fun j hj=>by match j,hj with|0,_=>rfl|1,_=>rfl|j+2,hj=>simp at hj;omega) (fun j a ha=>by match j,ha with|0,ha=>simp at ha;subst ha;exact h1|1,ha=>simp at ha;subst ha;exact h2|j+2,ha=>simp at ha)
theorem JP {x y z:AV} {u v t:Value} (h1:cI P w D ι x u) (h2:cI P w D ι y v) (h3:cI P w D ι z t):cI P w D ι (.gJ [x,y,z]) (.tuple #[u,v,t]):=
 .gJ _ _ (fun j=>if j=0 then u else if j=1 then v else t) rfl (fun j hj=>by match j,hj with|0,_=>rfl|1,_=>rfl|2,_=>rfl|j+3,hj=>simp at hj;omega) (fun j a ha=>by match j,ha with|0,ha=>simp at ha;subst ha;exact h1|1,ha=>simp at ha;subst ha;exact h2|2,ha=>simp at ha;subst ha;exact h3|j+3,ha=>simp at ha)
theorem JN {x:AV} {u:Value} (h1:cI P w D ι x u):cI P w D ι (.gJ [x]) (.tuple #[u]):=
 .gJ _ _ (fun _=>u) rfl (fun j hj=>by match j,hj with|0,_=>rfl|j+1,hj=>simp at hj) (fun j a ha=>by match j,ha with|0,ha=>simp at ha;subst ha;exact h1|j+1,ha=>simp at ha)
structure MC (P:Program) (w:World) (D:Nat->Prop) (ι:Names) (m:MK) (L:List MapEntry) (left:List (List AV)):Prop where
 len:left.length=L.length
 at_:∀(i:Nat) (cs:List AV),left[i]? =some cs->∃(e:MapEntry) (kv vv:AV),L[i]? =some e/\part m.ka m.ks cs=some kv/\cs[m.ks]? =some vv/\cI P w D ι kv e.key/\cI P w D ι vv e.val
theorem MC.rep {m:MK} {L:List MapEntry} {left:List (List AV)} (h:MC P w D ι m L left) (hr:∀{a v},cI P w D ι a v->cI P w' D' ι' a v):MC P w' D' ι' m L left:=⟨h.len,fun i cs hi=>by
 obtain⟨e,kv,vv,h1,h2,h3,h4,h5⟩:=h.at_ i cs hi
 exact⟨e,kv,vv,h1,h2,h3,hr h4,hr h5⟩⟩
theorem mZ {α β:Type} {l:List α} {k:List β} {i j:Nat} {x:α} (hl:l.length=k.length) (h:(l.eraseIdx i)[j]? =some x):∃q:Nat,l[q]? =some x/\(k.eraseIdx i)[j]? =k[q]? :=by
 rw[List.getElem?_eraseIdx]at h
 split at h
 ·rename_i hj;exact⟨j,h,by rw[List.getElem?_eraseIdx,if_pos hj]⟩
 ·rename_i hj;exact⟨j+1,h,by rw[List.getElem?_eraseIdx,if_neg hj]⟩
theorem MC.erase {m:MK} {L:List MapEntry} {left:List (List AV)} (h:MC P w D ι m L left) {i:Nat} (hi:i<L.length):MC P w D ι m (L.eraseIdx i) (left.eraseIdx i):=⟨by
 rw[List.length_eraseIdx,List.length_eraseIdx,h.len],fun j cs hj=>by
 obtain⟨q,hq,he⟩:=mZ h.len hj
 obtain⟨e,kv,vv,h1,h2⟩:=h.at_ q cs hq
 exact⟨e,kv,vv,he.trans h1,h2⟩⟩
theorem nF:∀{l:List MapEntry} {i:Nat} {e:MapEntry},(l.map (·.born)).Nodup->l[i]? =some e->l.filter (fun x=>x.born !=e.born)=l.eraseIdx i
 |x::l,0,e,hn,h=>by
  simp at h;subst h
  obtain⟨h1,h2⟩:=List.nodup_cons.1 (show(x.born::l.map (·.born)).Nodup from hn)
  rw[List.filter_cons,if_neg (by simp),List.eraseIdx_cons_zero]
  refine List.filter_eq_self.2 fun y hy=>?_
  have:y.born≠x.born:=fun hc=>h1 (by rw[<-hc];exact List.mem_map_of_mem hy)
  simpa using this
 |x::l,i+1,e,hn,h=>by
  obtain⟨h1,h2⟩:=List.nodup_cons.1 (show(x.born::l.map (·.born)).Nodup from hn)
  simp only[List.getElem?_cons_succ]at h
  have hx:x.born≠e.born:=fun hc=>h1 (by rw[hc];exact List.mem_map_of_mem (List.mem_of_getElem? h))
  rw[List.filter_cons,if_pos (by simpa using hx),List.eraseIdx_cons_succ,nF h2 h]
theorem DQ {es:Array MapEntry} {clock:Nat} {seen:Array Nat} {i:Nat} {e:MapEntry} (hs:KV es clock) (h:(leftOf es seen).toList[i]? =some e):(leftOf es (seen.push e.born)).toList=(leftOf es seen).toList.eraseIdx i:=by
 have hn:((leftOf es seen).toList.map (·.born)).Nodup:=by
  unfold leftOf
  rw[Array.toList_filter]
  exact((List.filter_sublist (p:=fun e=> !seen.contains e.born) (l:=es.toList)).map MapEntry.born).nodup hs.2
 rw[<-nF hn h]
 unfold leftOf
 rw[Array.toList_filter,Array.toList_filter,List.filter_filter]
 refine List.filter_congr fun x _=>?_
 rw[contains_push]
 cases seen.contains x.born<;>cases hb:(x.born==e.born)<;>simp_all
theorem eval_put {a:Act} {d:Nat} {v:Value} (h:d<a.tmps.size):(a.put (some d) v).eval (.tmp d)=v:=by
 simp[Act.put,Act.eval,h]
def JT (ix ie b b1 ok:Nat) (DX GV DW:Oper) (r4:List Oper) (nE:Code):Code:=
 .seq (.region ix #[DX,GV] false) (.seq (.cond (.tmp ok) .skip (.exit b)) (.block b1 (.seq (.region ie (DW::r4).toArray false) nE)))
structure HO (P:Program) (md:List (Nat×Nat)) (nt fid s0 it nx ok en:Nat) (DX GV DW:Oper) (r4:List Oper) (nE:Code) (vE:List bj) (su:VC):Prop where
 h1:DX.op=.next (.tmp it) false
 h2:DX.dst=some nx
 h3:DX.guard=none
 h4:GV.op=.extract (.tmp nx) 0
 h5:GV.dst=some ok
 h6:GV.guard=none
 h7:DW.op=.entry (.tmp it)
 h8:DW.dst=some en
 h9:DW.guard=none
 Qb:nx<nt
 S4:ok<nt
 lt3:en<nt
 ne1:it≠nx
 ne2:it≠ok
 hE:allM (kI P (DW::r4).toArray nt s0 false false #[] []) r4 1=some vE
 hR:jo P md nt fid nE=some su
theorem Eb (hm:P.follows .mixedOrders=true) {md:List (Nat×Nat)} {nt fid s0 ix ie b b1 it nx ok en:Nat} {m:MK} {id:Id} {DX GV DW:Oper} {r4:List Oper} {nE:Code} {vE:List bj} {su:VC}
  (O:HO P md nt fid s0 it nx ok en DX GV DW r4 nE vE su) {rr bm:Nat} {es:Array MapEntry} {clock:Nat} (Gt:KV es clock) {ds:List Deferred} {n0:Nat} {D0:Nat->Prop} {ι0:Names} {w0:World} {Q:Ex->Env->ar->Prop} {Q':Exit->Act->World->Prop}
  (hQ:tF P hs nt ds Q n0 D0 ι0 w0 Q') (hD0:¬D0 rr) (hrr:hs<=rr) (gW:bm≠rr):
  ∀(n:Nat) (left:List (List AV)) (env:Env) (σ:ar) (a:Act) (w:World) (D:Nat->Prop) (ι:Names) (seen:Array Nat),
   Co m it nx ok en id (dG (Sound P) (.seq (.eH false vE) su)) b b1 Q n left env σ->St P hs nt D ι env σ a w->a.defers=ds->n0<=σ.next->Step hs D0 ι0 w0 D ι w->
   (∃sz C,ι id=some ⟨rr,sz,C,none⟩)->D rr->D bm->w.heap[rr]? =some (.mapIter (some bm) clock seen clock)->w.heap[bm]? =some (.map es clock)->left.length=n->MC P w D ι m (leftOf es seen).toList left->
   pD P (JT ix ie b b1 ok DX GV DW r4 nE) (Exit.inBlock b Q') (n+1) a w:=by
 intro n
 induction n with
 |zero=>
  intro left env σ a w D ι seen hv dF hd Hy T hid TG TD hr hb hlen hL
  obtain⟨Lr,hq⟩:=hv
  have ha:a.tmps.getD it undef=.pointer (some ⟨rr,0,none⟩):=by
   have:=dF.env it
   rw[Lr]at this
   obtain⟨B,e,hB,_⟩:=iA this
   obtain⟨sz,C,hid⟩:=hid
   rw[hid]at hB;injection hB with hB;subst hB
   simpa using e
  have Ss:a.eval (.tmp it)=.pointer (some ⟨rr,0,none⟩):=ha
  rcases run_next_at (P:=P) w DX.type rr bm clock clock seen es clock hr hb Gt.1 (Nat.le_refl _)with⟨_,gh⟩|⟨e,he,_⟩
  rotate_left
  ·have h0:(leftOf es seen).toList=[]:=List.eq_nil_of_length_eq_zero (by rw[<-hL.len,hlen])
   rw[h0]at he;simp at he
  have Fi:nx<a.tmps.size:=by rw[dF.size];exact O.Qb
  have E2:=iv (iv dF.env (JN (.eM _ _ (.bool false))) (dst:=some nx) (fun d h=>by cases h;exact O.Qb) dF.size) (.eM _ _ (.bool false)) (dst:=some ok) (fun d h=>by cases h;exact O.S4) (by rw[eW];exact dF.size)
  show AJ P (.seq _ _) _ a w
  refine lO (km (wp_region_list ?_))
  refine mM (v:=.tuple #[.bool false]) (w':=w) O.h3 (by simp[execOp,O.h1,Ss,gh,Result.andThen]) ?_
  refine mM (v:=.bool false) (w':=w) O.h6 (by rw[O.h2];simp[execOp,O.h4,eval_put Fi,Instr.extract]) ?_
  rw[O.h2,O.h5]
  refine lO (wO (t:=false) (eval_put (by rw[eW,dF.size];exact O.S4)) (km (wp_exit ?_)))
  show Exit.inBlock b Q' (.exit b) _ _
  simp only[Exit.inBlock,if_true]
  exact hQ .normal _ ⟨σ.get,σ.next+1⟩ _ w D ι hq T ⟨dF.tp,dF.used.next,E2,by rw[eW,eW];exact dF.size⟩ (by rw[put_defers,put_defers];exact hd) (Nat.le_succ_of_le Hy)
 |succ n ih=>
  intro left env σ a w D ι seen hv dF hd Hy T hid TG TD hr hb hlen hL
  obtain⟨Lr,hq⟩:=hv
  have ha:a.tmps.getD it undef=.pointer (some ⟨rr,0,none⟩):=by
   have:=dF.env it
   rw[Lr]at this
   obtain⟨B,e,hB,_⟩:=iA this
   obtain⟨sz,C,hid⟩:=hid
   rw[hid]at hB;injection hB with hB;subst hB
   simpa using e
  have Ss:a.eval (.tmp it)=.pointer (some ⟨rr,0,none⟩):=ha
  rcases run_next_at (P:=P) w DX.type rr bm clock clock seen es clock hr hb Gt.1 (Nat.le_refl _)with⟨h0,_⟩|⟨e,he,w1,od,gh⟩
  ·have:=hL.len
   rw[hlen,Array.length_toList]at this;omega
  obtain⟨i,hi,Hw⟩:=List.getElem_of_mem he
  have QZ:(leftOf es seen).toList[i]? =some e:=by rw[List.getElem?_eq_getElem hi,Hw]
  have lE:i<left.length:=by rw[hL.len];exact hi
  obtain⟨e',kv,vv,q1,q2,q3,q4,q5⟩:=hL.at_ i left[i] (List.getElem?_eq_getElem lE)
  rw[QZ]at q1;injection q1 with q1;subst q1
  replace hq:=hq i left[i] kv vv (List.getElem?_eq_getElem lE) q2 q3
  have Ov:w1.heap[rr]? =some (.mapIter (some bm) clock seen clock):=by rcases od with rfl|rfl<;>exact hr
  have eJ:=MapKept.heap_set (o':=.mapIter (some bm) clock (seen.push e.born) clock) Ov
  obtain⟨w2,pr⟩:∃w2,ChangeMaps.setBlock w1 rr (.mapIter (some bm) clock (seen.push e.born) clock)=w2:=⟨_,rfl⟩
  have ho:∀k,k≠rr->w2.heap[k]? =w.heap[k]? :=fun k hk=>by
   rw[<-pr]
   refine(eJ.2 k hk).trans ?_
   rcases od with rfl|rfl<;>rfl
  have hz:w2.heap.size=w.heap.size:=by
   rw[<-pr]
   rcases od with rfl|rfl<;>simp[ChangeMaps.setBlock]
  have Dz:w2.heap[rr]? =some (.mapIter (some bm) clock (seen.push e.born) clock):=by rw[<-pr];exact eJ.1
  have xQ:w2.os=w.os/\w2.tape=w.tape/\w2.output=w.output:=by
   rw[<-pr]
   rcases od with rfl|rfl<;>exact⟨rfl,rfl,rfl⟩
  rw[pr]at gh
  clear pr eJ
  have I1:mO w rr:=⟨_,_,_,_,hr⟩
  have I2:mO w2 rr:=⟨_,_,_,_,Dz⟩
  have rt:∀{a v},cI P w D ι a v->cI P w2 D ι a v:=yM I1 I2 ho
  have S2:=dF.tp.iter I1 I2 ho hz
  have T2:Step hs D0 ι0 w0 D ι w2:=⟨⟨xQ.1.trans T.below.os,xQ.2.1.trans T.below.tape,xQ.2.2.trans T.below.output,by rw[hz];exact T.below.size,fun k hk=>(ho k (by omega)).trans (T.below.block k hk)⟩,fun k hk=>(ho k (fun hc=>hD0 (hc▸hk))).trans (T.qL k hk),T.dead,T.names,T.new⟩
  have Gh:w2.heap[bm]? =some (.map es clock):=(ho bm gW).trans hb
  have Fi:nx<a.tmps.size:=by rw[dF.size];exact O.Qb
  have E1:cq P w2 D ι env a:=fun t=>rt (dF.env t)
  have E2:=iv (iv E1 (JP (.eM _ _ (.bool true)) (rt q4) (rt q5)) (dst:=some nx) (fun d h=>by cases h;exact O.Qb) dF.size) (.eM _ _ (.bool true)) (dst:=some ok) (fun d h=>by cases h;exact O.S4) (by rw[eW];exact dF.size)
  have E3:=iv E2 (JO (rt q4) (rt q5)) (dst:=some en) (fun d h=>by cases h;exact O.lt3) (by rw[eW,eW];exact dF.size)
  have Hu:=run_entry_at (P:=P) w2 rr bm clock seen es clock e Dz Gh (mem_left he).1 Gt.2
  show AJ P (.seq _ _) _ a w
  refine lO (km (wp_region_list ?_))
  refine mM (v:=.tuple #[.bool true,e.key,e.val]) (w':=w2) O.h3 (by simp[execOp,O.h1,Ss,gh,Result.andThen]) ?_
  refine mM (v:=.bool true) (w':=w2) O.h6 (by rw[O.h2];simp[execOp,O.h4,eval_put Fi,Instr.extract]) ?_
  rw[O.h2,O.h5]
  refine lO (wO (t:=true) (eval_put (by rw[eW,dF.size];exact O.S4)) (km (wp_skip ?_)))
  refine tf (lO (km (wp_region_list ?_)))
  show wpList P _ _ (DW::r4) _ _
  have ha3:(((a.put (some nx) (.tuple #[.bool true,e.key,e.val])).put (some ok) (.bool true)).eval (.tmp it))=.pointer (some ⟨rr,0,none⟩):=by
   have n1:=O.ne1
   have n2:=O.ne2
   rw[<-Ss]
   simp[Act.put,Act.eval,Array.getD_eq_getD_getElem?,Array.getElem?_setIfInBounds,Ne.symm n1,Ne.symm n2]
  refine mM (v:=.tuple #[e.key,e.val]) (w':=w2) O.h9 (by simp[execOp,O.h7,ha3,Hu,Result.andThen]) ?_
  rw[O.h8]
  refine yZ r4 vE 1 _ ⟨σ.get,σ.next+1⟩ _ w2 D ι (fun _=>False) O.hE hq S2 dF.used.next (fun _ h=>h.elim) E3 (by rw[eW,eW,eW];exact dF.size) fun Tt σ3 a3 w3 D3 ι3 hk T3 St3 QN Uv=>?_
  refine qo hm nE su O.hR _ Tt σ3 a3 w3 D3 ι3 _ hk St3 fun ex Ii σ4 a4 w4 D4 ι4 IW T4 Tj QO Uw=>?_
  have Ue:a4.defers=ds:=by rw[QO,QN,put_defers,put_defers,put_defers];exact hd
  have UG:n0<=σ4.next:=Nat.le_trans Hy (Nat.le_trans (Nat.le_succ _) (Nat.le_trans Uv Uw))
  have Ns:=T3.trans T4
  have TT:=T2.trans Ns
  have ua:Co m it nx ok en id (dG (Sound P) (.seq (.eH false vE) su)) b b1 Q n (left.eraseIdx i) Ii σ4->pD P (JT ix ie b b1 ok DX GV DW r4 nE) (Exit.inBlock b Q') (n+1) a4 w4:=fun hq5=>by
   refine ih (left.eraseIdx i) Ii σ4 a4 w4 D4 ι4 (seen.push e.born) hq5 Tj Ue UG TT ?_ (Ns.dead _ TG) (Ns.dead _ TD) ((Ns.qL _ TG).trans Dz) ((Ns.qL _ TD).trans Gh) ?_ ?_
   ·obtain⟨sz,C,hid⟩:=hid;exact⟨sz,C,Ns.names _ _ hid⟩
   ·rw[List.length_eraseIdx,if_pos lE,hlen];rfl
   ·rw[DQ Gt QZ]
    exact(hL.erase hi).rep fun hr=>Ns.rep (rt hr)
  have out:∀ex,ex≠.normal->Q ex Ii σ4->Q' (Se ex) a4 w4:=fun ex _ h=>hQ ex Ii σ4 a4 w4 D4 ι4 h TT Tj Ue UG
  cases ex with
  |normal=>exact ua IW
  |ret=>exact out .ret (by simp) IW
  |exit jW=>
   simp only[aZ]at IW
   simp only[Se,Exit.inBlock]
   by_cases h1:jW=b1
   ·rw[if_pos h1]at IW ⊢
    exact ua IW
   ·rw[if_neg h1]at IW ⊢
    simp only[dn,aZ]at IW
    show Exit.inBlock b Q' (.exit jW) a4 w4
    simp only[Exit.inBlock]
    by_cases h2:jW=b
    ·rw[if_pos h2]at IW ⊢
     exact hQ .normal Ii σ4 a4 w4 D4 ι4 IW TT Tj Ue UG
    ·rw[if_neg h2]at IW ⊢
     exact out (.exit jW) (by simp) IW
def CS (P:Program) (nt:Nat) (c:Code) (W:(Ex->Env->ar->Prop)->Env->ar->Prop):Prop:=
 ∀(hs:Nat) (Q:Ex->Env->ar->Prop) (env:Env) (σ:ar) (a:Act) (w:World) (D:Nat->Prop) (ι:Names) (Q':Exit->Act->World->Prop),W Q env σ->St P hs nt D ι env σ a w->tF P hs nt a.defers Q σ.next D ι w Q'->AJ P c Q' a w
theorem CS.code (hm:P.follows .mixedOrders=true) {md:List (Nat×Nat)} {nt fid:Nat} {c:Code} {vc:VC} (h:jo P md nt fid c=some vc):CS P nt c (dG (Sound P) vc):=
 fun _ Q env σ a w D ι Q' hv dF hQ=>qo hm c vc h Q env σ a w D ι Q' hv dF hQ
theorem CS.seq {nt:Nat} {x y:Code} {V W:(Ex->Env->ar->Prop)->Env->ar->Prop} (h:CS P nt x V) (k:CS P nt y W):CS P nt (.seq x y) (fun Q=>V (dn (W Q) Q)):=fun hs Q env σ a w D ι Q' hv dF hQ=>by
 refine lO (h hs _ env σ a w D ι _ hv dF fun ex jg σ1 a1 w1 D1 ι1 hq T j9 hd hle=>?_)
 cases ex with
 |normal=>exact k hs Q jg σ1 a1 w1 D1 ι1 Q' hq j9 (by rw[hd];exact hQ.later T hle)
 |exit id=>exact hQ (.exit id) jg σ1 a1 w1 D1 ι1 hq T j9 hd hle
 |ret=>exact hQ .ret jg σ1 a1 w1 D1 ι1 hq T j9 hd hle
theorem CS.rng (hm:P.follows .mixedOrders=true) {md:List (Nat×Nat)} {nt fid s0 sA site ia ix ie b b1 it nx ok en:Nat} {m:MK} {DX GV DW D5:Oper} {JI r4:List Oper} {nE:Code} {vA vE:List bj} {su:VC} {t k e:TypeId} {tm:Operand} {tm':O}
  (O:HO P md nt fid s0 it nx ok en DX GV DW r4 nE vE su) (h1:D5.op=.range t tm) (h2:D5.dst=some it) (h3:D5.guard=none) (dS:it<nt) (ht:P.underlying t=some (.map k e)) (Rg:cO P tm=some tm') (hA:allM (kI P (JI++[D5]).toArray nt sA false false #[] []) JI 0=some vA):
  CS P nt (.seq (.region ia (JI++[D5]).toArray false) (.block b (.loop (JT ix ie b b1 ok DX GV DW r4 nE))))
   (fun Q=>wpOps (Sound P) false vA (G5 m tm' site it nx ok en (dG (Sound P) (.seq (.eH false vE) su)) b b1 Q)):=fun hs Q env σ a w D ι Q' hv dF hQ=>by
 refine lO (km (wp_region_list ?_))
 show wpList P _ _ (JI++[D5]) a w
 refine wQ [D5] JI vA 0 env σ a w D ι (fun _=>False) hA hv dF.tp dF.used (fun _ h=>h.elim) dF.env dF.size fun jg σ1 a1 w1 D1 ι1 hk T sJ uP Gp=>?_
 obtain⟨id,r,hid,hg,hw,hr⟩:=hk
 have gL:=dj sJ.env Rg
 rw[hid]at gL
 obtain⟨B,hv,hB,hk⟩:=FA gL
 obtain⟨B',dz,R,ki,mm⟩:=sJ.tp.row id r hg
 rw[hB]at dz;injection dz with dz;subst dz
 obtain⟨hrsz,es,clock,hb,fj,⟨hlen,Gt⟩,hM⟩:=R.map m hk
 have Sg:=R.lt
 have gh:=run_range_map (P:=P) w1 t k e B.b es clock ht hb
 refine mM (v:=.pointer (some ⟨w1.heap.size,0,none⟩)) (w':=w1.alloc (.mapIter (some B.b) clock #[] clock)) h3 (by simp[execOp,h1,hv,gh,Result.andThen]) ?_
 rw[h2]
 obtain⟨w2,pr⟩:∃w2,w1.alloc (.mapIter (some B.b) clock #[] clock)=w2:=⟨_,rfl⟩
 have hblk:∀b,b<w1.heap.size->w2.heap[b]? =w1.heap[b]? :=fun b hb=>by rw[<-pr];exact Below.heap_alloc _ _ _ hb
 have kj:w2.heap[w1.heap.size]? =some (.mapIter (some B.b) clock #[] clock):=by rw[<-pr];exact heap_alloc_new _ _
 have hz:w2.heap.size=w1.heap.size+1:=by rw[<-pr];simp
 have xQ:w2.os=w1.os/\w2.tape=w1.tape/\w2.output=w1.output:=by rw[<-pr];exact⟨rfl,rfl,rfl⟩
 rw[pr]
 clear pr gh
 let D2:Nat->Prop:=fun x=>D1 x∨x=B.b∨x=w1.heap.size
 let ι2:Names:=kE ι1 ⟨site,σ1.next⟩ ⟨w1.heap.size,1,0,none⟩
 have jA:ι1 ⟨site,σ1.next⟩=none:=fresh sJ.used (fun h=>h)
 have SQ:∀{a v},cI P w1 D1 ι1 a v->cI P w2 D2 ι2 a v:=fun h=>h.frame (fun b hd=>hblk b (sJ.tp.dead b hd)) (fun _ h=>.inl h) (e9 jA)
 have yY:∀{j q C},σ1.get j=some q->ι2 j=some C->ι1 j=some C:=fun {j q C} hj hC=>by
  obtain⟨C',uv,_⟩:=sJ.tp.row j q hj
  have:=e9 (B:=⟨w1.heap.size,1,0,none⟩) jA j C' uv
  have e:=this.symm.trans hC
  injection e with e;rw[<-e];exact uv
 have lt:∀{j q C},σ1.get j=some q->ι1 j=some C->C.b<w1.heap.size:=fun {j q C} hj hC=>by
  obtain⟨C',uv,R',_⟩:=sJ.tp.row j q hj
  rw[hC]at uv;injection uv with uv;subst uv
  exact R'.lt
 have NR:∀{j q},bq σ1.get id {r with w:=false} j=some q->∃q0,σ1.get j=some q0/\(q.w=true->q=q0/\j≠id)/\(j=id->q={r with w:=false}/\q0=r)/\(j≠id->q=q0):=fun {j q} h=>by
  unfold bq at h
  split at h
  ·rename_i e
   injection h with h;subst h
   exact⟨r,e▸hg,fun h=>(by cases h),fun _=>⟨rfl,rfl⟩,fun hc=>absurd e hc⟩
  ·rename_i e
   exact⟨q,h,fun _=>⟨rfl,e⟩,fun hc=>absurd hc e,fun _=>rfl⟩
 have S2:gw P hs D2 ι2 (bq σ1.get id {r with w:=false}) w2:=by
  refine⟨by rw[hz];exact Nat.le_succ_of_le sJ.tp.lo,fun b hb=>?_,fun j q h=>?_,fun j j' q q' C C' h h' IX hC uv he=>?_⟩
  ·rw[hz]
   rcases hb with hb|rfl|rfl
   ·exact Nat.lt_succ_of_lt (sJ.tp.dead b hb)
   ·exact Nat.lt_succ_of_lt Sg
   ·exact Nat.lt_succ_self _
  ·obtain⟨q0,MX,IX,zO,gW⟩:=NR h
   obtain⟨C,hC,RC,k1,k2⟩:=sJ.tp.row j q0 MX
   have hCl:=lt MX hC
   refine⟨C,e9 jA j C hC,?_,fun P5=>k1 ((IX P5).1▸P5),fun P5 hD=>?_⟩
   ·have RF:gM P w2 D2 ι2 C q0:=RC.frame (hblk _ hCl) fun a v h=>SQ h
    by_cases hj:j=id
    ·obtain⟨e1,e2⟩:=zO hj
     rw[e1,<-e2];exact RF.flag false
    ·rw[gW hj];exact RF
   ·obtain⟨e1,e2⟩:=IX P5
    rcases hD with hD|hD|hD
    ·exact k2 (e1▸P5) hD
    ·exact e2 (sJ.tp.inj j id q0 r C B MX hg (e1▸P5) hC hB hD)
    ·omega
  ·obtain⟨q0,MX,UQ,_⟩:=NR h
   obtain⟨q0',Q9,_⟩:=NR h'
   exact sJ.tp.inj j j' q0 q0' C C' MX Q9 ((UQ IX).1▸IX) (yY MX hC) (yY Q9 uv) he
 have T2:Step hs D1 ι1 w1 D2 ι2 w2:=⟨⟨xQ.1,xQ.2.1,xQ.2.2,by omega,fun k hk=>hblk k (Nat.lt_of_lt_of_le hk sJ.tp.lo)⟩,fun b hb=>hblk b (sJ.tp.dead b hb),fun _ h=>.inl h,e9 jA,fun b hb=>by
  rcases hb with hb|rfl|rfl
  ·exact .inl hb
  ·exact .inr (ki hw)
  ·exact .inr sJ.tp.lo⟩
 have E2:cq P w2 D2 ι2 (upd jg (some it) (.ptr ⟨site,σ1.next⟩ 0 0)) (a1.put (some it) (.pointer (some ⟨w1.heap.size,0,none⟩))):=
  iv (fun t=>SQ (sJ.env t)) (by have:=cI.ptr (P:=P) (w:=w2) (D:=D2) (ι:=ι2) ⟨site,σ1.next⟩ 0 0 ⟨w1.heap.size,1,0,none⟩ (dX _ _ _) rfl;simpa using this) (fun d h=>by cases h;exact dS) sJ.size
 have L2:MC P w2 D2 ι2 m (leftOf es #[]).toList r.rows:=by
  have he:(leftOf es #[]).toList=es.toList:=by simp[leftOf]
  rw[he]
  refine⟨by simpa using fj.symm,fun i cs hi=>?_⟩
  obtain⟨Qu,kv,vv,q1,q2,q3,q4,q5⟩:=hM i cs hi
  exact⟨Qu,kv,vv,by simpa using q1,q2,q3,SQ q4,SQ q5⟩
 show AJ P (.block b (.loop (JT ix ie b b1 ok DX GV DW r4 nE))) Q' _ w2
 exact tf (Cg (r.rows.length+1) (Eb hm O Gt (ds:=a.defers) (n0:=σ.next) (D0:=D) (ι0:=ι) (w0:=w) hQ
  (fun hc=>by have:=dF.tp.dead _ hc;have:=T.below.size;omega) sJ.tp.lo (by omega) r.rows.length r.rows _ ⟨bq σ1.get id {r with w:=false},σ1.next+1⟩ _ w2 D2 ι2 #[] hr
  ⟨S2,sJ.used.upd.next,E2,by rw[eW];exact sJ.size⟩ (by rw[put_defers];exact uP) (Nat.le_succ_of_le Gp) (T.trans T2) ⟨1,0,dX _ _ _⟩ (.inr (.inr rfl)) (.inr (.inl rfl)) kj ((hblk _ Sg).trans hb) rfl L2))
theorem CS.fn {f:Nat} {fn:Func} {c:Code} {args:List AV} {σ:ar} {K:AV->ar->Prop} {vr:List nK} {W:(Ex->Env->ar->Prop)->Env->ar->Prop} (PQ:P.funcs[f]? =some fn) (hc:fn.body=some c) (hr:fn.results.toList.mapM (C8 P)=some vr) (ha:fn.params.size+fn.nfree=args.length) (hle:fn.params.size+fn.nfree<=fn.ntmps)
  (h:CS P fn.ntmps c W) (hv:W (kC vr K) (cz args) σ):Call P f args σ K:=
 gN (vz PQ hc hr ha hle fun hs w D ι a Q' dF hQ=>h hs (kC vr K) (cz args) σ a w D ι Q' hv dF hQ)
theorem sw (hm:P.follows .mixedOrders=true) {c:VC} {Q Q':Ex->Env->ar->Prop} {env:Env} {σ:ar} (hQ:∀x e s,Q x e s->Q' x e s) (h:dG (Call P) c Q env σ):dG (Sound P) c Q' env σ:=
 jy (fun _ _ _ _ h=>gq hm h) kH c Q Q' env σ hQ h
theorem zb {m:MK} {it nx ok en:Nat} {id:Id} {B B':(Ex->Env->ar->Prop)->Env->ar->Prop} {b b1:Nat} {Q Q':Ex->Env->ar->Prop} (hB:∀R R' e s,(∀x e s,R x e s->R' x e s)->B R e s->B' R' e s) (hQ:∀x e s,Q x e s->Q' x e s):
  ∀(n:Nat) (left:List (List AV)) (env:Env) (σ:ar),Co m it nx ok en id B b b1 Q n left env σ->Co m it nx ok en id B' b b1 Q' n left env σ
 |0,_,env,σ,h=>⟨h.1,hQ _ _ _ h.2⟩
 |n+1,left,env,σ,h=>⟨h.1,fun i cs kv vv h1 h2 h3=>hB _ _ _ _ (fun x e s hx=>by
  have hn:=zb (id:=id) (m:=m) (it:=it) (nx:=nx) (ok:=ok) (en:=en) (b:=b) (b1:=b1) hB hQ n (left.eraseIdx i) e s
  cases x with
  |normal=>exact hn hx
  |ret=>exact hQ _ _ _ hx
  |exit jW=>
   simp only[aZ]at hx ⊢
   split at hx
   ·rename_i h1;rw[if_pos h1];exact hn hx
   ·rename_i h1
    rw[if_neg h1]
    simp only[dn,aZ]at hx ⊢
    split at hx
    ·rename_i h2;rw[if_pos h2];exact hQ _ _ _ hx
    ·rename_i h2;rw[if_neg h2];exact hQ _ _ _ hx) (h.2 i cs kv vv h1 h2 h3)⟩
theorem G6 (hm:P.follows .mixedOrders=true) {m:MK} {tm:O} {site it nx ok en:Nat} {c:VC} {b b1:Nat} {Q Q':Ex->Env->ar->Prop} {env:Env} {σ:ar} (hQ:∀x e s,Q x e s->Q' x e s) (h:G5 m tm site it nx ok en (dG (Call P) c) b b1 Q env σ):G5 m tm site it nx ok en (dG (Sound P) c) b b1 Q' env σ:=by
 obtain⟨id,r,h1,h2,h3,h4⟩:=h
 exact⟨id,r,h1,h2,h3,zb (B':=dG (Sound P) c) (fun R R' e s hR hb=>sw hm hR hb) hQ _ _ _ _ h4⟩
theorem wS {α:Type}:∀{l:List α} {i:Nat} {x:α},l[i]? =some x->(x::l.eraseIdx i).Perm l
 |y::l,0,x,h=>by simp at h;subst h;exact List.Perm.refl _
 |y::l,i+1,x,h=>by
  simp only[List.getElem?_cons_succ]at h
  rw[List.eraseIdx_cons_succ]
  exact(List.Perm.swap _ _ _).trans ((wS h).cons _)
theorem RT {m:MK} {tm:O} {site it nx ok en:Nat} {c:VC} {b b1:Nat} {Q:Ex->Env->ar->Prop} {env:Env} {σ:ar} {id:Id} {r:Row} (I:List (List AV)->Env->ar->Prop) (h1:cQ env tm=.map id m) (h2:σ.get id=some r) (h3:r.w=true) (Lr:([nx,ok,en]++yd c).contains it=false)
  (h0:I [] (upd env (some it) (.ptr ⟨site,σ.next⟩ 0 0)) ⟨bq σ.get id {r with w:=false},σ.next+1⟩)
  (step:∀pre cs rest e s kv vv,(pre++cs::rest).Perm r.rows->I pre e s->gE ([nx,ok,en]++yd c) (upd env (some it) (.ptr ⟨site,σ.next⟩ 0 0)) e->part m.ka m.ks cs=some kv->cs[m.ks]? =some vv->
   dG (Call P) c (aZ b1 (dn (I (pre++[cs])) (aZ b Q))) (upd (upd (upd e (some nx) (.gJ [.bool true,kv,vv])) (some ok) (.bool true)) (some en) (.gJ [kv,vv])) ⟨s.get,s.next+1⟩)
  (fin:∀pre e s,pre.Perm r.rows->I pre e s->gE ([nx,ok,en]++yd c) (upd env (some it) (.ptr ⟨site,σ.next⟩ 0 0)) e->Q .normal (upd (upd e (some nx) (.gJ [.bool false])) (some ok) (.bool false)) ⟨s.get,s.next+1⟩):
  G5 m tm site it nx ok en (dG (Call P) c) b b1 Q env σ:=by
 refine⟨id,r,h1,h2,h3,?_⟩
 have QP:∀e,gE ([nx,ok,en]++yd c) (upd env (some it) (.ptr ⟨site,σ.next⟩ 0 0)) e->e it=.ptr ⟨site,σ.next⟩ 0 0:=fun e h=>by
  rw[h it Lr];simp[upd]
 have key:∀n left pre e s,(pre++left).Perm r.rows->left.length=n->I pre e s->gE ([nx,ok,en]++yd c) (upd env (some it) (.ptr ⟨site,σ.next⟩ 0 0)) e->Co m it nx ok en ⟨site,σ.next⟩ (dG (Call P) c) b b1 Q n left e s:=by
  intro n
  induction n with
  |zero=>
   intro left pre e s hp hl hI hK
   have:left=[]:=List.eq_nil_of_length_eq_zero hl
   subst this
   rw[List.append_nil]at hp
   exact⟨QP e hK,fin pre e s hp hI hK⟩
  |succ n ih=>
   intro left pre e s hp hl hI hK
   refine⟨QP e hK,fun i cs kv vv hi hk hv=>?_⟩
   have lE:=(List.getElem?_eq_some_iff.1 hi).1
   have Fe:(cs::left.eraseIdx i).Perm left:=by
    exact wS hi
   have IT:(pre++cs::left.eraseIdx i).Perm r.rows:=(Fe.append_left pre).trans hp
   have N5:gE ([nx,ok,en]++yd c) (upd env (some it) (.ptr ⟨site,σ.next⟩ 0 0)) (upd (upd (upd e (some nx) (.gJ [.bool true,kv,vv])) (some ok) (.bool true)) (some en) (.gJ [kv,vv])):=
    ((hK.upd (fun t h=>by cases h;simp)).upd (fun t h=>by cases h;simp)).upd (fun t h=>by cases h;simp)
   refine jy (fun _ _ _ _ h=>h) aI c _ _ _ _ (fun x e' s' hx=>?_) (zj c _ _ _ (fun t ht=>List.mem_append_right _ ht) N5 (step pre cs (left.eraseIdx i) e s kv vv IT hI hK hk hv))
   obtain⟨hx,Gn⟩:=hx
   have ua:I (pre++[cs]) e' s'->Co m it nx ok en ⟨site,σ.next⟩ (dG (Call P) c) b b1 Q n (left.eraseIdx i) e' s':=fun TM=>
    ih (left.eraseIdx i) (pre++[cs]) e' s' (by rw[List.append_assoc];exact IT) (by rw[List.length_eraseIdx,if_pos lE];omega) TM Gn
   cases x with
   |normal=>exact ua hx
   |ret=>exact hx
   |exit jW=>
    simp only[aZ]at hx ⊢
    split at hx
    ·rename_i h1;rw[if_pos h1];exact ua hx
    ·rename_i h1;rw[if_neg h1];exact hx
 exact key _ r.rows [] _ _ (List.Perm.refl _) rfl h0 (gE.refl _ _)
end Go.Proofs.YtgoelphibofcmaaGreat.V

namespace Go.Proofs.YtgoelphibofcmaaGreat.V
open Go.RowKit
def Nj:Code->Code
 | .seq a _=>a
 |c=>c
def HE:Code->Code
 | .seq _ b=>b
 |c=>c
def Te:Code->Code
 | .block _ c=>c
 |c=>c
def Vf:Code->Code
 | .loop c=>c
 |c=>c
def R9:Code->List Oper
 | .region _ o _=>o.toList
 |_=>[]
def rg2 (k:Code):Code:=Nj (Nj (HE (HE k)))
def Vb (k:Code):Code:=HE (Nj (HE (HE k)))
def rgL (k:Code):Code:=Vf (Te (Vb k))
def O0 (k:Code):Code:=HE (HE (rgL k))
def PD:Oper:={dst:=none,op:=.nilCheck (.tmp 0),type:=0,pos:= "",after:= #[],guard:=none}
def rgP (k:Code):List Oper:=(R9 (rg2 k)).dropLast
def rgO (k:Code):Oper:=(R9 (rg2 k)).getLastD PD
def S7 (k:Code) (i:Nat):Oper:=(R9 (Nj (rgL k))).getD i PD
def RL (k:Code):Oper:=(R9 (Nj (Te (O0 k)))).headD PD
def RM (k:Code):List Oper:=(R9 (Nj (Te (O0 k)))).tail
def rgR (k:Code):Code:=HE (Te (O0 k))
def RN (P:Program) (v0 v1:VC) (vA:List bj) (m:MK) (tm:O) (site it nx ok en:Nat) (vE:List bj) (vR:VC) (b b1:Nat) (vT:VC) (Q:Ex->Env->ar->Prop):Env->ar->Prop:=
 dG (Sound P) v0 (dn (dG (Sound P) v1 (dn (wpOps (Sound P) false vA (G5 m tm site it nx ok en (dG (Sound P) (.seq (.eH false vE) vR)) b b1 (dn (dG (Sound P) vT Q) Q))) Q)) Q)
def O1 (P:Program) (v0 v1:VC) (vA:List bj) (m:MK) (tm:O) (site it nx ok en:Nat) (vE:List bj) (vR:VC) (b b1:Nat) (vT:VC) (Q:Ex->Env->ar->Prop):Env->ar->Prop:=
 dG (Call P) v0 (dn (dG (Call P) v1 (dn (wpOps (Call P) false vA (G5 m tm site it nx ok en (dG (Call P) (.seq (.eH false vE) vR)) b b1 (dn (dG (Call P) vT Q) Q))) Q)) Q)
theorem xd {F F':Env->ar->Prop} {Q:Ex->Env->ar->Prop} (h:∀e s,F e s->F' e s):∀x e s,dn F Q x e s->dn F' Q x e s:=fun x e s hx=>by
 cases x with
 |normal=>exact h e s hx
 |ret=>exact hx
 |exit id=>exact hx
theorem JU {P:Program} (hm:P.follows .mixedOrders=true) {v0 v1:VC} {vA:List bj} {m:MK} {tm:O} {site it nx ok en:Nat} {vE:List bj} {vR:VC} {b b1:Nat} {vT:VC} {Q:Ex->Env->ar->Prop} {env:Env} {σ:ar}
  (h:O1 P v0 v1 vA m tm site it nx ok en vE vR b b1 vT Q env σ):RN P v0 v1 vA m tm site it nx ok en vE vR b b1 vT Q env σ:=
 sw hm (xd fun _ _ h=>sw hm (xd fun _ _ h=>lf (fun _ _ _ _ h=>gq hm h) kH (fun _ _ h=>G6 hm (xd fun _ _ h=>sw hm (fun _ _ _ h=>h) h) h) _ _ _ h) h) h
end Go.Proofs.YtgoelphibofcmaaGreat.V

namespace Go.Proofs.YtgoelphibofcmaaGreat.V
open Go.RowKit
noncomputable def oR:Go.Code:=Tryz.f135.body.getD .skip
def EB:VC:=(.eH false [⟨(some 2),(.new [.cm]),none,135000000,[]⟩])
def Kl:VC:=(.eH false [⟨(some 3),(.dm (.k .cm)),none,135001000,[]⟩])
def Km:List bj:=[⟨(some 6),(.dm (.t 0)),none,135002000,[]⟩,⟨(some 7),(.AL (.t 6)),none,135002001,[]⟩,⟨(some 8),(.fR 4 (.t 7)),none,135002002,[]⟩,⟨(some 9),(.load false 1 (.t 8)),none,135002003,[]⟩]
def Ay:List bj:=[⟨(some 14),(.extract 0 (.t 13)),none,135004001,[]⟩,⟨(some 15),(.extract 1 (.t 13)),none,135004002,[]⟩,⟨(some 4),(.new [(.int .i64 0),(.int .i64 0)]),none,135004003,[]⟩,⟨none,(.store 2 (.t 4) (.t 14)),none,135004004,[]⟩,⟨(some 5),(.dm (.t 15)),none,135004005,[]⟩]
def Az:VC:=(.eH false [⟨(some 16),(.dm (.t 3)),none,135005000,[]⟩,⟨(some 17),(.load true 2 (.t 4)),none,135005001,[]⟩,⟨(some 18),(.dm (.t 5)),none,135005002,[]⟩,⟨(some 19),(.build [(.int .i64 0),(.int .i64 0),(.int .i64 0)] [(0,(2,(.t 17))),(2,(1,(.t 18)))]),none,135005003,[]⟩,⟨(some 20),(.lS 3 1 [(.t 19)]),none,135005004,[]⟩,⟨(some 21),(.append 3 (.t 16) (.t 20)),none,135005005,[]⟩,⟨(some 3),(.dm (.t 21)),none,135005006,[]⟩])
def AA:VC:=(.seq (.eH false [⟨(some 22),(.dm (.t 3)),none,135006000,[]⟩,⟨(some 23),(.call 180 [(.t 22)]),none,135006001,[]⟩,⟨none,(.store 1 (.t 2) (.t 23)),none,135006002,[]⟩]) .ret)
def AD:List nK:=[(.cell true 1 2)]
def Et:O:=(.t 9)
theorem OR:HO Tryz.prog [] Tryz.f135.ntmps 135 135004000 10 11 12 13 (S7 oR 0) (S7 oR 1) (RL oR) (RM oR) (rgR oR) Ay Az:=⟨by kernel_rfl,by kernel_rfl,by kernel_rfl,by kernel_rfl,by kernel_rfl,by kernel_rfl,by kernel_rfl,by kernel_rfl,by kernel_rfl,by decide,by decide,by decide,by decide,by decide,by kernel_rfl,by kernel_rfl⟩
theorem O4:oR=.seq (Nj oR) (.seq (Nj (HE oR)) (.seq (.seq (.region 2 (rgP oR++[rgO oR]).toArray false) (.block 0 (.loop (JT 3 4 0 1 12 (S7 oR 0) (S7 oR 1) (RL oR) (RM oR) (rgR oR))))) (HE (HE (HE oR))))):=by kernel_rfl
theorem NH (m:MK):CS Tryz.prog Tryz.f135.ntmps oR (RN Tryz.prog EB Kl Km m Et 135002999 10 11 12 13 Ay Az 0 1 AA):=by
 rw[O4]
 exact CS.seq (CS.code (md:=[]) (fid:=135) mixed (by kernel_rfl)) (CS.seq (CS.code (md:=[]) (fid:=135) mixed (by kernel_rfl)) (CS.seq (CS.rng (tm:=.tmp 9) (sA:=135002000) (t:=107) (k:=50) (e:=2) mixed OR (by kernel_rfl) (by kernel_rfl) (by kernel_rfl) (by decide) (by kernel_rfl) (by kernel_rfl) (by kernel_rfl)) (CS.code (md:=[]) (fid:=135) mixed (by kernel_rfl))))
theorem OZ {args:List AV} {σ:ar} {K:AV->ar->Prop} (ha:args.length=Tryz.f135.params.size) (m:MK) (h:O1 Tryz.prog EB Kl Km m Et 135002999 10 11 12 13 Ay Az 0 1 AA (kC AD K) (cz args) σ):Call Tryz.prog 135 args σ K:=
 CS.fn Tryz.func135 (by kernel_rfl) (by kernel_rfl) ha.symm (by decide) (NH m) (JU mixed h)
end Go.Proofs.YtgoelphibofcmaaGreat.V

namespace Go.Proofs.YtgoelphibofcmaaGreat.V
open Go.RowKit
attribute [local irreducible] dG wpOps gy Call
attribute [local go_sem] aM fF eP ga fW cQ upd cz K.av cR AV.cells AV.cell rowOf rowsOf part ld rowAt bq cu dD ee ik bJ dh ev fU eX dr ej dd dc dQ dR bQ bf cW bP cY cX eh ek ei cV cj de ef bK aO da cG ij bw cK bU aY dn aZ dE AV.undef bD bG dV ec dM dK cH eu ew cF ep eo cZ db List.getD_cons_zero List.getD_cons_succ List.getD_nil List.all_cons List.all_nil Bool.and_true Bool.true_and Bool.and_self Bool.not_true Bool.not_false Option.map_some Option.map_none Option.bind_some Option.bind_none List.length_cons List.length_nil List.take_succ_cons List.take_zero List.take_nil List.drop_succ_cons List.drop_zero List.drop_nil List.head?_cons List.map_cons List.map_nil List.getElem?_cons_zero List.getElem?_cons_succ List.cons_append List.nil_append List.append_nil List.length_map List.set_cons_zero List.set_cons_succ Nat.reduceMul eq_self Int.toNat_natCast Int.natCast_nonneg and_self true_and and_true decide_true decide_false Bool.false_eq_true Nat.zero_add Nat.add_zero List.contains_cons List.contains_nil Bool.or_false Bool.false_or beq_self_eq_true Nat.reduceBEq ne_eq not_true_eq_false not_false_eq_true Id.mk.injEq false_and and_false Nat.reduceLT Int.reduceLE Int.reduceLT Int.reduceToNat Int.reduceNeg Int.reduceAdd Nat.le_refl List.length_append beq_true beq_false Bool.not_eq_eq_eq_not or_false false_or dL ai aj aH bl bB cw aX bd aU bh cU bH
end Go.Proofs.YtgoelphibofcmaaGreat.V

namespace Go.Proofs.YtgoelphibofcmaaGreat.V
open Go.RowKit
attribute [local irreducible] dG wpOps gy Call
attribute [local go_sem] aM fF eP ga fW cQ upd cz K.av cR AV.cells AV.cell rowOf rowsOf part ld rowAt bq cu dD ee ik bJ dh ev fU eX dr ej dd dc dQ dR bQ bf cW bP cY cX eh ek ei cV cj de ef bK aO da cG ij bw cK bU aY dn aZ dE AV.undef bD bG dV ec dM dK cH eu ew cF ep eo cZ db List.getD_cons_zero List.getD_cons_succ List.getD_nil List.all_cons List.all_nil Bool.and_true Bool.true_and Bool.and_self Bool.not_true Bool.not_false Option.map_some Option.map_none Option.bind_some Option.bind_none List.length_cons List.length_nil List.take_succ_cons List.take_zero List.take_nil List.drop_succ_cons List.drop_zero List.drop_nil List.head?_cons List.map_cons List.map_nil List.getElem?_cons_zero List.getElem?_cons_succ List.cons_append List.nil_append List.append_nil List.length_map List.set_cons_zero List.set_cons_succ Nat.reduceMul eq_self Int.toNat_natCast Int.natCast_nonneg and_self true_and and_true decide_true decide_false Bool.false_eq_true Nat.zero_add Nat.add_zero List.contains_cons List.contains_nil Bool.or_false Bool.false_or beq_self_eq_true Nat.reduceBEq ne_eq not_true_eq_false not_false_eq_true Id.mk.injEq false_and and_false Nat.reduceLT Int.reduceLE Int.reduceLT Int.reduceToNat Int.reduceNeg Int.reduceAdd Nat.le_refl List.length_append beq_true beq_false Bool.not_eq_eq_eq_not or_false false_or dL ai aj aH bl bB cw aX bd aU bh cU bH
end Go.Proofs.YtgoelphibofcmaaGreat.V

namespace Go.Proofs.YtgoelphibofcmaaGreat.V
open Go.RowKit
attribute [local irreducible] dG wpOps gy Call
attribute [local go_sem] aM fF eP ga fW cQ upd cz K.av cR AV.cells AV.cell rowOf rowsOf part ld rowAt bq cu dD ee ik bJ dh ev fU eX dr ej dd dc dQ dR bQ bf cW bP cY cX eh ek ei cV cj de ef bK aO da cG ij bw cK bU aY dn aZ dE AV.undef bD bG dV ec dM dK cH eu ew cF ep eo cZ db List.getD_cons_zero List.getD_cons_succ List.getD_nil List.all_cons List.all_nil Bool.and_true Bool.true_and Bool.and_self Bool.not_true Bool.not_false Option.map_some Option.map_none Option.bind_some Option.bind_none List.length_cons List.length_nil List.take_succ_cons List.take_zero List.take_nil List.drop_succ_cons List.drop_zero List.drop_nil List.head?_cons List.map_cons List.map_nil List.getElem?_cons_zero List.getElem?_cons_succ List.cons_append List.nil_append List.append_nil List.length_map List.set_cons_zero List.set_cons_succ Nat.reduceMul eq_self Int.toNat_natCast Int.natCast_nonneg and_self true_and and_true decide_true decide_false Bool.false_eq_true Nat.zero_add Nat.add_zero List.contains_cons List.contains_nil Bool.or_false Bool.false_or beq_self_eq_true Nat.reduceBEq ne_eq not_true_eq_false not_false_eq_true Id.mk.injEq false_and and_false Nat.reduceLT Int.reduceLE Int.reduceLT Int.reduceToNat Int.reduceNeg Int.reduceAdd Nat.le_refl List.length_append beq_true beq_false Bool.not_eq_eq_eq_not or_false false_or dL ai aj aH bl bB cw aX bd aU bh cU bH
end Go.Proofs.YtgoelphibofcmaaGreat.V

namespace Go.Proofs.YtgoelphibofcmaaGreat.V
open Go.RowKit
attribute [local irreducible] dG wpOps gy Call
attribute [local go_sem] aM fF eP ga fW cQ upd cz K.av cR AV.cells AV.cell rowOf rowsOf part ld rowAt bq cu dD ee ik bJ dh ev fU eX dr ej dd dc dQ dR bQ bf cW bP cY cX eh ek ei cV cj de ef bK aO da cG ij bw cK bU aY dn aZ dE AV.undef bD bG dV ec dM dK cH eu ew cF ep eo cZ db List.getD_cons_zero List.getD_cons_succ List.getD_nil List.all_cons List.all_nil Bool.and_true Bool.true_and Bool.and_self Bool.not_true Bool.not_false Option.map_some Option.map_none Option.bind_some Option.bind_none List.length_cons List.length_nil List.take_succ_cons List.take_zero List.take_nil List.drop_succ_cons List.drop_zero List.drop_nil List.head?_cons List.map_cons List.map_nil List.getElem?_cons_zero List.getElem?_cons_succ List.cons_append List.nil_append List.append_nil List.length_map List.set_cons_zero List.set_cons_succ Nat.reduceMul eq_self Int.toNat_natCast Int.natCast_nonneg and_self true_and and_true decide_true decide_false Bool.false_eq_true Nat.zero_add Nat.add_zero List.contains_cons List.contains_nil Bool.or_false Bool.false_or beq_self_eq_true Nat.reduceBEq ne_eq not_true_eq_false not_false_eq_true Id.mk.injEq false_and and_false Nat.reduceLT Int.reduceLE Int.reduceLT Int.reduceToNat Int.reduceNeg Int.reduceAdd Nat.le_refl List.length_append beq_true beq_false Bool.not_eq_eq_eq_not or_false false_or dL ai aj aH bl bB cw aX bd aU bh cU bH
theorem za:∀{ps qs:List ad},(ps.Pairwise fun a b=>jJ a.aQ b.aQ=true)->(qs.Pairwise fun a b=>jJ a.aQ b.aQ=true)->(∀x,x∈ps↔x∈qs)->ps=qs
 |[],[],_,_,_=>rfl
 |[],q::qs,_,_,h=>absurd ((h q).2 (by simp)) (by simp)
 |p::ps,[],_,_,h=>absurd ((h p).1 (by simp)) (by simp)
 |p::ps,q::qs,hp,hq,h=>by
  obtain⟨p1,p2⟩:=List.pairwise_cons.1 hp
  obtain⟨q1,q2⟩:=List.pairwise_cons.1 hq
  have e:p=q:=by
   rcases List.mem_cons.1 ((h p).1 (by simp))with e|e
   ·exact e
   ·rcases List.mem_cons.1 ((h q).2 (by simp))with e'|e'
    ·exact e'.symm
    ·have:=Jn (q1 p e)
     rw[p1 q e']at this;cases this
  subst e
  congr 1
  refine za p2 q2 fun x=>⟨fun hx=>?_,fun hx=>?_⟩
  ·rcases List.mem_cons.1 ((h x).1 (List.mem_cons_of_mem _ hx))with e|e
   ·subst e;have:=p1 x hx;rw[nh]at this;cases this
   ·exact e
  ·rcases List.mem_cons.1 ((h x).2 (List.mem_cons_of_mem _ hx))with e|e
   ·subst e;have:=q1 x hx;rw[nh]at this;cases this
   ·exact e
theorem Ej {L qs:List ad} (hR:nJ L) (hp:qs.Perm L) (hs:∀i j:Nat,i<j->j<qs.length->jJ (aJ qs j).aQ (aJ qs i).aQ=false):qs=L:=by
 rw[r6]at hR
 have hd:L.Pairwise fun a b=>a.aQ≠b.aQ:=hR.imp fun {a b} h e=>by rw[e,nh]at h;cases h
 have hdq:qs.Pairwise fun a b=>a.aQ≠b.aQ:=hp.symm.pairwise hd fun {a b} h e=>h e.symm
 refine za ?_ hR fun x=>hp.mem_iff
 rw[List.pairwise_iff_getElem]at hdq ⊢
 intro i j hi hj Dw
 have h1:=hs i j Dw hj
 rw[fb hj,fb hi]at h1
 exact Fw h1 fun e=>hdq i j hi hj Dw e.symm
theorem C9 (ps:List ad) (h0:ps≠[]) (hlen:ps.length<=1048576) (σ:ar) (id:Id) (hv:id.ck<σ.next) (hg:σ.get id=some ⟨true,3,ps.map aa⟩):
  Call Tryz.prog 145 [.own id 0 ps.length] σ fun a σ'=>∃o:Id,a=.own o 0 ps.length/\σ'.get o=some ⟨true,3,ps.map aa⟩/\σ.next<=o.ck/\o.ck<σ'.next/\∀x:Id,x.ck<σ.next->σ'.get x=σ.get x:=by
 refine eU eC rfl fun hl=>?_
 clear hl
 have h2:ps.length<=16777216:=by omega
 have hm:(ps.map aa).length=ps.length:=by simp
 have v1:=dp hv
 have ht:(ps.map aa).take ps.length=ps.map aa:=by rw[<-hm,List.take_length]
 have ha:(ps.map aa).all (fun c=>c.length==3&&c.all AV.cell)=true:=all_map fun x=>by simp[aa,AV.cell]
 (try((repeat(revert hN;revert N;apply Pn.out));refine wk (tw @hg (tw @h2 (tw @hm (tw @v1 (tw @ht @ha))))) ?_;(repeat(refine Pn.mk ?_;intro N hN))))
 exact fx (vs:=[.own ⟨145003002,σ.next+2⟩ 0 ps.length]) (.inl rfl) (sd @Nat.zero_add) ⟨_,rfl,sd @Nat.zero_add,by(try dsimp only);omega,by(try dsimp only);omega,fun x hx=>by
  have:=dp hx
  simp only[go_sem, ↓reduceIte,Nat.reduceEqDiff,Nat.reduceAdd,Nat.reduceSub,Nat.reduceLeDiff,reduceCtorEq,this]⟩
theorem zr (ps L:List ad) (hlen:ps.length<=1000000) (h0:ps≠[]) (hR:nJ L) (hp:ps.Perm L) (σ:ar) (id:Id) (hv:id.ck<σ.next) (hg:σ.get id=some ⟨true,3,ps.map aa⟩):
  Call Tryz.prog 180 [.own id 0 ps.length] σ fun a σ'=>∃o:Id,a=.agg [.own o 0 L.length]/\σ'.get o=some ⟨true,3,L.map aa⟩/\σ.next<=o.ck/\o.ck<σ'.next/\∀x:Id,x.ck<σ.next->σ'.get x=σ.get x:=by
 refine eU eC rfl fun hl=>?_
 clear hl
 have v1:=dp hv
 (try((repeat(revert hN;revert N;apply Pn.out));refine wk (tw @hg @v1) ?_;(repeat(refine Pn.mk ?_;intro N hN))))
 refine .inr (aI _ _ _ _ _ (fun r σ1 hq=>?_) (C9 ps h0 (by omega) ⟨_,_⟩ id (by(try dsimp only);omega) (sd (tw @v1 @hg))))
 obtain⟨g1,x1⟩:=σ1
 obtain⟨o,rfl,q1,q2,q3,q4⟩:=hq
 (try dsimp only at q1 q2 q3 q4)
 have k2:=q4 ⟨180000000,σ.next⟩ (by(try dsimp only);omega)
 simp only[go_sem, ↓reduceIte,Nat.reduceEqDiff,Nat.reduceAdd,Nat.reduceSub,Nat.reduceLeDiff,reduceCtorEq]at k2
 refine hN _ _ ?_
 clear hN N
 (try((repeat(revert hN;revert N;apply Pn.out));refine wk @Nat.zero_add ?_;(repeat(refine Pn.mk ?_;intro N hN))))
 refine .inr (aI _ _ _ _ _ (fun r σ2 hq=>?_) (G9 O7 O8 ps (by omega) ⟨g1,_⟩ o q1))
 obtain⟨g2,x2⟩:=σ2
 obtain⟨u1,u2,ss,u3,u4,u5,u6⟩:=hq
 (try dsimp only at u1 u2 u3)
 have hss:ss=L:=Ej hR (u5.trans hp) u6
 rw[hss]at u3 u4
 have o2:(⟨180000000,σ.next⟩:Id)≠o:=fun e=>by rw[<-e]at q2;(try dsimp only at q2);omega
 have k3:=(u2 _ o2).trans k2
 have of:=eq_false (fun e:o=(⟨180000000,σ.next⟩:Id)=>o2 e.symm)
 refine hN _ _ ?_
 clear hN N
 (try((repeat(revert hN;revert N;apply Pn.out));refine wk @k3 ?_;(repeat(refine Pn.mk ?_;intro N hN))))
 exact fx (.inl rfl) (vs:=[.agg [.own o 0 ps.length]]) (sd @Nat.zero_add) ⟨o,by rw[u4];rfl,sd (tw @of @u3),by omega,by(try dsimp only);omega,fun x hx=>by
  have h1:x≠o:=fun e=>by rw[e]at hx;omega
  have h2:=u2 x h1
  have h3:=q4 x (by(try dsimp only);omega)
  have h4:=dp hx
  simp only[go_sem, ↓reduceIte,Nat.reduceEqDiff,Nat.reduceAdd,Nat.reduceSub,Nat.reduceLeDiff,reduceCtorEq,h4]at h3
  simp only[go_sem, ↓reduceIte,Nat.reduceEqDiff,Nat.reduceAdd,Nat.reduceSub,Nat.reduceLeDiff,reduceCtorEq,h4,h2,h3]⟩
end Go.Proofs.YtgoelphibofcmaaGreat.V

namespace Go.Proofs.YtgoelphibofcmaaGreat.V
open Go.RowKit
attribute [local irreducible] dG wpOps gy Call
attribute [local go_sem] aM fF eP ga fW cQ upd cz K.av cR AV.cells AV.cell rowOf rowsOf part ld rowAt bq cu dD ee ik bJ dh ev fU eX dr ej dd dc dQ dR bQ bf cW bP cY cX eh ek ei cV cj de ef bK aO da cG ij bw cK bU aY dn aZ dE AV.undef bD bG dV ec dM dK cH eu ew cF ep eo cZ db List.getD_cons_zero List.getD_cons_succ List.getD_nil List.all_cons List.all_nil Bool.and_true Bool.true_and Bool.and_self Bool.not_true Bool.not_false Option.map_some Option.map_none Option.bind_some Option.bind_none List.length_cons List.length_nil List.take_succ_cons List.take_zero List.take_nil List.drop_succ_cons List.drop_zero List.drop_nil List.head?_cons List.map_cons List.map_nil List.getElem?_cons_zero List.getElem?_cons_succ List.cons_append List.nil_append List.append_nil List.length_map List.set_cons_zero List.set_cons_succ Nat.reduceMul eq_self Int.toNat_natCast Int.natCast_nonneg and_self true_and and_true decide_true decide_false Bool.false_eq_true Nat.zero_add Nat.add_zero List.contains_cons List.contains_nil Bool.or_false Bool.false_or beq_self_eq_true Nat.reduceBEq ne_eq not_true_eq_false not_false_eq_true Id.mk.injEq false_and and_false Nat.reduceLT Int.reduceLE Int.reduceLT Int.reduceToNat Int.reduceNeg Int.reduceAdd Nat.le_refl List.length_append beq_true beq_false Bool.not_eq_eq_eq_not or_false false_or dL ai aj aH bl bB cw aX bd aU bh cU bH
def AsI (σ:ar) (T:Id) (ts:List ad) (pre:List (List AV)) (e0:Env) (s0:ar):Prop:=
 ∃l':List ad,pre=l'.map aa/\((l'=[]/\e0 3=.cm)∨∃o:Id,e0 3=.own o 0 l'.length/\s0.get o=some ⟨true,3,l'.map aa⟩/\σ.next<o.ck/\o.ck<s0.next)/\σ.next<s0.next/\(∀x:Id,x.ck<σ.next->x≠T->s0.get x=σ.get x)/\s0.get T=some ⟨false,mP.pG,ts.map aa⟩/\s0.get ⟨135000000,σ.next⟩=some ⟨true,1,[[.cm]]⟩/\e0 2=.ptr ⟨135000000,σ.next⟩ 0 0
theorem GK (L:List ad) (x:ad):(L++[x]).length=L.length+1:=by rw[List.length_append];rfl
theorem C1 {σ:ar} {c T O:Id} {s:aA} {ts L:List ad} (h:lR σ.get σ.next c T O s ts) (hlen:ts.length<=100000) (h0:ts≠[]) (hR:nJ L) (hp:ts.Perm L):
  Call Tryz.prog 135 [.ptr c 0 0] σ (fun r σ'=>∃o:Id,r=.agg [.own o 0 L.length]/\σ'.get o=some ⟨true,3,L.map aa⟩/\σ.next<=o.ck/\o.ck<σ'.next/\σ.next<=σ'.next/\∀x:Id,x.ck<σ.next->x≠T->σ'.get x=σ.get x):=by
 refine OZ rfl mP ?_
 have fQ:=h.row
 have OE:=h.tl
 have v1:=dp h.cv
 have v2:=dp h.tv
 unfold O1
 rw[EB]
 (try((repeat(revert hN;revert N;apply Pn.out));refine wk (tw @fQ @v1) ?_;(repeat(refine Pn.mk ?_;intro N hN))))
 refine CE (RT (id:=T) (r:=⟨true,mP.pG,ts.map aa⟩) (AsI σ T ts) (sd @Et.eq_1) (sd (tw @OE @v2)) rfl (by decide) ?_ ?_ ?_)
 ·have vT:(T=(⟨135000000,σ.next⟩:Id))=False:=eq_false fun e=>by have:=h.tv;rw[e]at this;(try dsimp only at this);omega
  have vT2:((⟨135000000,σ.next⟩:Id)=T)=False:=eq_false fun e=>by have:=h.tv;rw[<-e]at this;(try dsimp only at this);omega
  exact⟨[],rfl,.inl ⟨rfl,sd @Nat.zero_add⟩,by(try dsimp only);omega,fun x hx hT=>by
   have h1:=dp hx
   have h2:=eq_false hT
   simp only[go_sem, ↓reduceIte,Nat.reduceEqDiff,Nat.reduceAdd,Nat.reduceSub,Nat.reduceLeDiff,reduceCtorEq,h1,h2],sd @Nat.zero_add,sd @vT2,sd @Nat.zero_add⟩
 ·rintro pre cs rest e0 s0 kv vv hpp ⟨l',rfl,hout,Hy,jA,hT,h5,e2⟩ hK hpart hvv
  have s5:cs∈ts.map aa:=hpp.subset (by simp)
  obtain⟨tl,hx,rfl⟩:=List.mem_map.1 s5
  have Fc:=hpp.length_eq
  simp only[List.length_append,List.length_map,List.length_cons]at Fc
  simp[part,aa,MK.ks]at hpart hvv
  subst hpart hvv
  rw[Ay,Az]
  have Sr:=h.tv
  have vT:=dp (i:=T) (n:=s0.next) (by omega)
  have v5:=dp (i:=⟨135000000,σ.next⟩) (n:=s0.next) (by(try dsimp only);omega)
  clear hpp s5 hK
  have hm1:l'.map aa++[aa tl]=(l'++[tl]).map aa:=by simp
  have ux:=GK l' tl
  have rM:(l'++[tl]).map aa=l'.map aa++[[.int .i64 tl.aQ.eZ,.int .i64 tl.aQ.eT,.int .i64 tl.aV]]:=by rw[List.map_append];rfl
  rcases hout with⟨MU,e3⟩|⟨o,e3,og,on,ov⟩
  ·subst MU
   (try((repeat(revert hN;revert N;apply Pn.out));refine wk (tw @e3 @e2) ?_;(repeat(refine Pn.mk ?_;intro N hN))))
   exact⟨[]++[tl],hm1,.inr ⟨⟨135005005,s0.next+1+1⟩,sl @Nat.zero_add,sl @Nat.zero_add,by(try dsimp only);omega,by(try dsimp only);omega⟩,by(try dsimp only);omega,fun y hy Rq=>by
    have h1:=dp (i:=y) (n:=s0.next) (by omega)
    have h2:=jA y hy Rq
    simp only[go_sem, ↓reduceIte,Nat.reduceEqDiff,Nat.reduceAdd,Nat.reduceSub,Nat.reduceLeDiff,reduceCtorEq,h1,h2],sd (tw @vT @hT),sd (tw @v5 @h5),sd @e2⟩
  ·have vo:=dp ov
   have oT:=cr (a:=T) (b:=o) (by omega)
   have o5:=cr (a:=⟨135000000,σ.next⟩) (b:=o) (by(try dsimp only);omega)
   have lF:(l'.map aa).length=l'.length:=by simp
   have e1:l'.length<=16777215:=by omega
   (try((repeat(revert hN;revert N;apply Pn.out));refine wk (tw @e3 (tw @e2 (tw @og (tw @vo (tw @lF @e1))))) ?_;(repeat(refine Pn.mk ?_;intro N hN))))
   exact⟨l'++[tl],hm1,.inr ⟨⟨135005005,s0.next+1+1⟩,by rw[ux];simp only[go_sem, ↓reduceIte,Nat.reduceEqDiff,Nat.reduceAdd,Nat.reduceSub,Nat.reduceLeDiff,reduceCtorEq]<;>rfl,by rw[rM];simp only[go_sem, ↓reduceIte,Nat.reduceEqDiff,Nat.reduceAdd,Nat.reduceSub,Nat.reduceLeDiff,reduceCtorEq]<;>rfl,by(try dsimp only);omega,by(try dsimp only);omega⟩,by(try dsimp only);omega,fun y hy Rq=>by
    have h1:=dp (i:=y) (n:=s0.next) (by omega)
    have h2:=jA y hy Rq
    have h3:=cr (a:=y) (b:=o) (by omega)
    simp only[go_sem, ↓reduceIte,Nat.reduceEqDiff,Nat.reduceAdd,Nat.reduceSub,Nat.reduceLeDiff,reduceCtorEq,h1,h2,h3],sd (tw @vT (tw @oT @hT)),sd (tw @v5 (tw @o5 @h5)),sd @e2⟩
 ·rintro pre e0 s0 hpp ⟨l',rfl,hout,Hy,jA,hT,h5,e2⟩ hK
  clear hK
  have l8:l'.Perm ts:=by
   have:∀{a b:List ad},(a.map aa).Perm (b.map aa)->a.Perm b:=fun {a b} qD=>by
    have h2:=qD.map (fun cs:List AV=>match cs with|[.int _ x,.int _ y,.int _ t]=>(⟨⟨x,y⟩,t⟩:ad)|_=>default)
    simpa[List.map_map,Function.comp_def,aa]using h2
   exact this hpp
  have Ut:=l8.length_eq
  rcases hout with⟨MU,e3⟩|⟨o,e3,og,on,ov⟩
  ·exfalso
   subst MU
   exact h0 (List.eq_nil_of_length_eq_zero Ut.symm)
  have gW:l'≠[]:=fun e=>h0 (List.eq_nil_of_length_eq_zero (by rw[<-Ut,e];rfl))
  (try((repeat(revert hN;revert N;apply Pn.out));refine wk (tw @AA.eq_1 (tw @AD.eq_1 (tw @e3 @e2))) ?_;(repeat(refine Pn.mk ?_;intro N hN))))
  refine .inr (aI _ _ _ _ _ (fun r σ1 hq=>?_) (zr l' L (by omega) gW hR (l8.trans hp) ⟨s0.get,_⟩ o (by(try dsimp only);omega) og))
  obtain⟨g1,x1⟩:=σ1
  obtain⟨o2,rfl,q1,q2,q3,q4⟩:=hq
  (try dsimp only at q1 q2 q3 q4)
  have k5:=(q4 ⟨135000000,σ.next⟩ (by(try dsimp only);omega)).trans h5
  have o25:=cr (a:=⟨135000000,σ.next⟩) (b:=o2) (by(try dsimp only);omega)
  refine hN _ _ ?_
  clear hN N
  (try((repeat(revert hN;revert N;apply Pn.out));refine wk (tw @AA.eq_1 (tw @AD.eq_1 (tw @e2 @k5))) ?_;(repeat(refine Pn.mk ?_;intro N hN))))
  exact fx (.inl rfl) (vs:=[.agg [.own o2 0 L.length]]) (by rw[AD];simp only[ft,iq,go_sem, ↓reduceIte,Nat.reduceEqDiff,Nat.reduceAdd,Nat.reduceSub,Nat.reduceLeDiff,reduceCtorEq,e2]) ⟨o2,rfl,sd (tw @o25 @q1),by omega,by(try dsimp only);omega,by(try dsimp only);omega,fun y hy Rq=>by
   have h1:=dp (i:=y) (n:=σ.next) hy
   simp only[go_sem, ↓reduceIte,Nat.reduceEqDiff,Nat.reduceAdd,Nat.reduceSub,Nat.reduceLeDiff,reduceCtorEq,h1]
   exact(q4 y (by omega)).trans (jA y hy Rq)⟩
end Go.Proofs.YtgoelphibofcmaaGreat.V

namespace Go.Proofs.YtgoelphibofcmaaGreat.V
open Go.RowKit
attribute [local irreducible] dG wpOps gy Call
attribute [local go_sem] aM fF eP ga fW cQ upd cz K.av cR AV.cells AV.cell rowOf rowsOf part ld rowAt bq cu dD ee ik bJ dh ev fU eX dr ej dd dc dQ dR bQ bf cW bP cY cX eh ek ei cV cj de ef bK aO da cG ij bw cK bU aY dn aZ dE AV.undef bD bG dV ec dM dK cH eu ew cF ep eo cZ db List.getD_cons_zero List.getD_cons_succ List.getD_nil List.all_cons List.all_nil Bool.and_true Bool.true_and Bool.and_self Bool.not_true Bool.not_false Option.map_some Option.map_none Option.bind_some Option.bind_none List.length_cons List.length_nil List.take_succ_cons List.take_zero List.take_nil List.drop_succ_cons List.drop_zero List.drop_nil List.head?_cons List.map_cons List.map_nil List.getElem?_cons_zero List.getElem?_cons_succ List.cons_append List.nil_append List.append_nil List.length_map List.set_cons_zero List.set_cons_succ Nat.reduceMul eq_self Int.toNat_natCast Int.natCast_nonneg and_self true_and and_true decide_true decide_false Bool.false_eq_true Nat.zero_add Nat.add_zero List.contains_cons List.contains_nil Bool.or_false Bool.false_or beq_self_eq_true Nat.reduceBEq ne_eq not_true_eq_false not_false_eq_true Id.mk.injEq false_and and_false Nat.reduceLT Int.reduceLE Int.reduceLT Int.reduceToNat Int.reduceNeg Int.reduceAdd Nat.le_refl List.length_append beq_true beq_false Bool.not_eq_eq_eq_not or_false false_or dL ai aj aH bl bB cw aX bd aU bh cU bH
theorem lR.three {g g':Rows} {n n':Nat} {c T O:Id} {s:aA} {ts:List ad} (h:lR g n c T O s ts) (hn:n<=n') (hc:g' c=g c) (hT:g' T=g T) (hO:g' O=g O):lR g' n' c T O s ts:=
 ⟨hc.trans h.row,hT.trans h.tl,by rw[hO];exact h.op,Nat.lt_of_lt_of_le h.cv hn,Nat.lt_of_lt_of_le h.tv hn,Nat.lt_of_lt_of_le h.ov hn,h.cT,h.cO,h.TO⟩
theorem y6 (q:ad):∀l:List ad,(l++[q]).Perm (iz l q)
 |[]=>List.Perm.refl _
 |x::l=>by
  have ih:=y6 q l
  rw[iz]
  split
  ·exact List.perm_append_comm (l₁:=x::l) (l₂:=[q])
  ·exact ih.cons x
structure ou (s:aA) (S:iS):Prop where
 at_:∀q,gC (s.bc.ah++S.1) q=gC S.2 q
 perm:(s.bc.ah++S.1).Perm S.2
theorem ou.fit {s:aA} {S:iS} (h:ou s S) (p:aD) (t:Int):j4 s (s.bc.ah++S.1) p t=j4 s S.2 p t:=by
 have e:gC (s.bc.ah++S.1)=gC S.2:=funext h.at_
 unfold j4
 rw[e]
theorem ou.no {s:aA} {S:iS} (h:ou s S) {p:aD} (h0:eD S.2 p<0):eD (s.bc.ah++S.1) p<0:=lK.2 fun t ht=>lK.1 h0 t (h.perm.subset ht)
theorem ou.put {s:aA} {S:iS} (h:ou s S) {x:ad} (h0:eD S.2 x.aQ<0):ou s (S.1++[x],iz S.2 x) where
 at_ q:=by
  show gC (s.bc.ah++(S.1++[x])) q=gC (iz S.2 x) q
  rw[<-List.append_assoc,zt q (lK.1 (h.no h0)),A5 q (lK.1 h0),h.at_]
 perm:=by
  show(s.bc.ah++(S.1++[x])).Perm (iz S.2 x)
  rw[<-List.append_assoc]
  exact(h.perm.append_right [x]).trans (y6 x S.2)
structure Nl (σ:ar) (m:Nat) (c T O:Id) (s:aA) (l:List ad) (S:iS) (e7:AV) (g:Rows) (n:Nat):Prop where
 xw:lR g n c T O s (s.bc.ah++S.1)
 u:(S.1=[]/\e7=.cm)∨∃u:Id,e7=.own u 0 S.1.length/\g u=some ⟨true,3,S.1.map aa⟩/\m<=u.ck/\u.ck<n/\0<S.1.length
 lo:m<=n
 fr:∀x:Id,x.ck<m->x≠T->x≠O->x≠c->g x=σ.get x
theorem Nl.frame {σ:ar} {m:Nat} {c T O:Id} {s:aA} {l:List ad} {S:iS} {e7 Qs:AV} {g g':Rows} {n n':Nat} (h:Nl σ m c T O s l S e7 g n) (he:Qs=e7) (hn:n<=n') (hf:∀x:Id,x.ck<n->g' x=g x):Nl σ m c T O s l S Qs g' n' where
 xw:=h.xw.frame hn hf
 u:=by
  subst he
  rcases h.u with h1|⟨u,h1,h2,h3,h4,h5⟩
  ·exact .inl h1
  ·exact .inr ⟨u,h1,(hf u h4).trans h2,h3,by omega,h5⟩
 lo:=Nat.le_trans h.lo hn
 fr x hx h1 h2 h3:=(hf x (Nat.lt_of_lt_of_le hx h.lo)).trans (h.fr x hx h1 h2 h3)
theorem I8 (s:aA) (hP:vn s) (l:List ad) (hA:jk s.aE l) (hW:iR s.bc.ah l=true) (σ:ar):Call Tryz.prog 78 [.agg (aw s),.agg [.sl (l.map aa)]] σ (fun r σ'=>∃v o,r=.gJ [v,.agg [.own o 0 (kb s l).2.length]]/\(((kb s l).1=[]/\v=.cm)∨∃u:Id,v=.own u 0 (kb s l).1.length/\σ'.get u=some ⟨true,3,(kb s l).1.map aa⟩/\σ.next<=u.ck/\u.ck<σ'.next/\u.ck<o.ck/\0<(kb s l).1.length)/\σ'.get o=some ⟨true,3,(kb s l).2.map aa⟩/\σ.next<=o.ck/\o.ck<σ'.next/\∀x:Id,x.ck<σ.next->σ'.get x=σ.get x):=by
 refine eU eC rfl fun ml=>?_
 clear ml
 have IH:=hA.1.sD
 have Lj:=ta hP hA hW
 have Rc:=Lj.sD
 (try dsimp only at Rc)
 have hsf:=hP.Al
 (try((repeat(revert hN;revert N;apply Pn.out));refine wk @aw.eq_1 ?_;(repeat(refine Pn.mk ?_;intro N hN))))
 have hc:=fun σ=>Ab s hP.set s.bc.ah hP.Al σ
 rw[aw]at hc
 refine .inr (aI _ _ _ _ _ (fun r σ1 hq=>?_) (hc _))
 obtain⟨g1,x1⟩:=σ1
 obtain⟨c,T,O,rfl,hC,Sz,Sr,hOv,qF,jA⟩:=hq
 (try dsimp only at hC Sz Sr hOv qF jA)
 have k3:=jA ⟨78000001,σ.next⟩ (by(try dsimp only);omega)
 have k5:=jA ⟨78000003,σ.next⟩ (by(try dsimp only);omega)
 simp only[go_sem, ↓reduceIte,Nat.reduceEqDiff,Nat.reduceAdd,Nat.reduceSub,Nat.reduceLeDiff,reduceCtorEq]at k3 k5
 have hcx:=hC.cv
 have hTx:=hC.tv
 have hOx:=hC.ov
 refine hN _ _ ?_
 clear hN N
 (try((repeat(revert hN;revert N;apply Pn.out));refine wk (tw @k3 (tw @k5 @aw.eq_1)) ?_;(repeat(refine Pn.mk ?_;intro N hN))))
 refine aW (fun n env st=>∃(S:iS) (m:Nat) (go:Bool),n=(if go then m else 0)/\env 8=.bool go/\(go=true->wz s l m S=kb s l/\oN l S.2<m)/\(go=false->S=kb s l)/\oj s l S/\ou s S/\Nl ⟨g1,x1⟩ x1 c T O s l S (env 7) st.get st.next) (l.length+1) ⟨([],s.bc.ah),l.length+1,true,rfl,sd @Nat.zero_add,fun _=>⟨rfl,by have:=E4 l s.bc.ah;(try dsimp only);omega⟩,fun h=>(by cases h),Lj,⟨fun q=>by simp,by simp⟩,?_⟩ ?_
 ·refine⟨?_,.inl ⟨rfl,sd @Nat.zero_add⟩,by(try dsimp only);omega,fun x hx h1 h2 h3=>sd @Nat.zero_add⟩
  have:=hC.frame (g':=g1) (n':=x1+1+1+1) (by omega) fun x hx=>rfl
  simpa using this
 rintro n1 e1 st1 ⟨S,m,go,rfl,e8,rK,hend,hI,hSm,hR⟩ hk
 have c3:=hk 3 (by kernel_rfl)
 have c5:=hk 5 (by kernel_rfl)
 have c6:=hk 6 (by kernel_rfl)
 simp only[go_sem, ↓reduceIte,Nat.reduceEqDiff,Nat.reduceAdd,Nat.reduceSub,Nat.reduceLeDiff,reduceCtorEq]at c3 c5 c6
 clear hk hc
 have nv:∀{x y:Id},x.ck<y.ck->x≠y:=fun h e=>by rw[e]at h;omega
 have b3:=(hR.fr ⟨78000001,σ.next⟩ (by(try dsimp only);omega) (nv (by(try dsimp only);omega)) (nv (by(try dsimp only);omega)) (nv (by(try dsimp only);omega))).trans k3
 have b5:=(hR.fr ⟨78000003,σ.next⟩ (by(try dsimp only);omega) (nv (by(try dsimp only);omega)) (nv (by(try dsimp only);omega)) (nv (by(try dsimp only);omega))).trans k5
 have hRl:=hR.lo
 cases go
 ·have hS:=hend rfl
  subst hS
  clear hend rK
  (try((repeat(revert hN;revert N;apply Pn.out));refine wk (tw @e8 @c6) ?_;(repeat(refine Pn.mk ?_;intro N hN))))
  have CO:=hI.len
  have hsf2:=hI.sD
  refine .inr (aI _ _ _ _ _ (fun r σ2 hq=>?_) (C1 (σ:=⟨st1.get,_⟩) (L:=(kb s l).2) (hR.xw.frame (by(try dsimp only);omega) fun x _=>rfl) (by rw[List.length_append];omega) (fun e=>by have:=congrArg List.length e;rw[List.length_append,List.length_nil]at this;have:=hP.some;omega) hI.G3 hSm.perm))
  obtain⟨g2,x2⟩:=σ2
  obtain⟨o,rfl,q1,q2,q3,q4,q5⟩:=hq
  (try dsimp only at q1 q2 q3 q4 q5)
  have d5:=(q5 ⟨78000003,σ.next⟩ (by(try dsimp only);omega) (nv (by(try dsimp only);omega))).trans b5
  refine hN _ _ ?_
  clear hN N
  (try((repeat(revert hN;revert N;apply Pn.out));refine wk (tw @c5 (tw @d5 @c6)) ?_;(repeat(refine Pn.mk ?_;intro N hN))))
  have vv:∀x:Id,σ.next<x.ck->(x=(⟨78000003,σ.next⟩:Id))=False:=fun x hx=>eq_false fun e=>by rw[e]at hx;(try dsimp only at hx);omega
  have vo:=vv o (by omega)
  refine fx (.inl rfl) (vs:=[e1 7,.agg [.own o 0 (kb s l).2.length]]) (sd @c5) ⟨_,o,rfl,?_,sd (tw @vo @q1),by omega,by(try dsimp only);omega,fun x hx=>?_⟩
  ·rcases hR.u with h1|⟨u,h1,h2,h3,h4,h40⟩
   ·exact .inl h1
   ·have vu:=vv u (by omega)
    have h5:=(q5 u (by(try dsimp only);omega) (fun e=>by rw[e]at h3;omega)).trans h2
    exact .inr ⟨u,h1,sd (tw @vu @h5),by omega,by(try dsimp only);omega,by(try dsimp only at q2);omega,h40⟩
  ·have h1:=dp hx
   have h2:=q5 x (by omega) (nv (by omega))
   have h3:=hR.fr x (by omega) (nv (by omega)) (nv (by omega)) (nv (by omega))
   have h4:=jA x (by(try dsimp only);omega)
   simp only[go_sem, ↓reduceIte,Nat.reduceEqDiff,Nat.reduceAdd,Nat.reduceSub,Nat.reduceLeDiff,reduceCtorEq,h1]at h4
   (try dsimp only at h3)
   simp only[go_sem, ↓reduceIte,Nat.reduceEqDiff,Nat.reduceAdd,Nat.reduceSub,Nat.reduceLeDiff,reduceCtorEq,h1]
   exact h2.trans (h3.trans h4)
 ·obtain⟨hF,hm⟩:=rK rfl
  clear hend rK
  have DE:fK s l S 0=S:=by simp[fK]
  (try((repeat(revert hN;revert N;apply Pn.out));refine wk (tw @e8 (tw @c3 @b3)) ?_;(repeat(refine Pn.mk ?_;intro N hN))))
  refine aW (fun n env st=>∃i:Nat,n=(l.length)-i/\i<=(l.length)/\env 19=.int .i64 (i:Int)/\(env 8=.bool (decide ((fK s l S i).1.length≠S.1.length))/\ou s (fK s l S i)/\Nl ⟨g1,x1⟩ x1 c T O s l (fK s l S i) (env 7) st.get st.next)) (l.length) ⟨0,by omega,by omega,sl (tw @c3 (tw @c5 @c6)),by(try dsimp only);exact⟨by rw[DE];simp only[go_sem, ↓reduceIte,Nat.reduceEqDiff,Nat.reduceAdd,Nat.reduceSub,Nat.reduceLeDiff,reduceCtorEq]<;>simp,by rw[DE];exact hSm,by rw[DE];exact hR.frame (sd @Nat.zero_add) (by(try dsimp only);omega) fun x _=>rfl⟩⟩ ?_
  rintro n_b env_b st_b ⟨i,rfl,ble,b19,bI0⟩ fY
  have b3:=fY 3 (by kernel_rfl);have b5:=fY 5 (by kernel_rfl);have b6:=fY 6 (by kernel_rfl);have Ky:=fY 17 (by kernel_rfl);have Kz:=fY 18 (by kernel_rfl)
  simp only[go_sem, ↓reduceIte,Nat.reduceEqDiff,Nat.reduceAdd,Nat.reduceSub,Nat.reduceLeDiff,reduceCtorEq,c3,c5,c6]at b3 b5 b6 Ky Kz
  clear fY
  obtain⟨b8,bS,bR⟩:=bI0
  obtain⟨AO,IK,CK⟩:=xp hI hA i (by omega)
  by_cases hi:(i:Int)<(l.length:Int)
  ·have gj:∀{e:Env} {gg:Rows} {nx:Nat},(e 19=.int .i64 (IntKind.i64.wrap ((i:Int)+1)))->(e 8=.bool (decide ((fK s l S (i+1)).1.length≠S.1.length))/\ou s (fK s l S (i+1))/\Nl ⟨g1,x1⟩ x1 c T O s l (fK s l S (i+1)) (e 7) gg nx)->∃m0,m0<(l.length)-i/\∃i:Nat,m0=(l.length)-i/\i<=(l.length)/\e 19=.int .i64 (i:Int)/\(e 8=.bool (decide ((fK s l S i).1.length≠S.1.length))/\ou s (fK s l S i)/\Nl ⟨g1,x1⟩ x1 c T O s l (fK s l S i) (e 7) gg nx):=fun x1 x2=>⟨_,by omega,i+1,rfl,by omega,(by rw[x1,az (by omega)]),x2⟩
   have fh:i<l.length:=by omega
   have yF:=qK s l S fh
   have hx:=gH fh
   have ht:=hA.2 _ hx
   have j7:=fw fh
   have QC:=AO.asm hA
   have lF:(l.map aa).length=l.length:=by simp
   have TV:=AO.sD
   have TW:=AO.len
   have LC:Cj (aJ l i).aQ=true:=hA.1.pt fh
   generalize fK s l S i=U at AO QC yF TV TW CK b8 bS bR
   have hFU:∀q,0<=gC (s.bc.ah++U.1) q->eL s.aE (gC (s.bc.ah++U.1) q)=true:=fun q hq=>by
    rw[bS.at_]at hq ⊢
    exact iF.ME QC q hq
   (try((repeat(revert hN;revert N;apply Pn.out));refine wk (tw @b19 (tw @b3 (tw @b5 (tw @b6 (tw @Ky (tw @Kz (tw @hi (tw @j7 (tw @lF @aa.eq_1))))))))) ?_;(repeat(refine Pn.mk ?_;intro N hN))))
   have sZ:=bS.fit (aJ l i).aQ (aJ l i).aV
   refine .inl ⟨_,Ip (bR.xw.xw.frame (by(try dsimp only);omega) (by(have:=dp bR.xw.cv);simp only[go_sem, ↓reduceIte,Nat.reduceEqDiff,Nat.reduceAdd,Nat.reduceSub,Nat.reduceLeDiff,reduceCtorEq,this]) (by(have:=dp bR.xw.tv);simp only[go_sem, ↓reduceIte,Nat.reduceEqDiff,Nat.reduceAdd,Nat.reduceSub,Nat.reduceLeDiff,reduceCtorEq,this])) hP.set hFU (aJ l i).aQ (aJ l i).aV ht,?_⟩
   refine hN _ _ ?_
   clear hN N
   cases hf:j4 s U.2 (aJ l i).aQ (aJ l i).aV
   ·rw[wC hf]at yF
    rw[hf]at sZ
    (try((repeat(revert hN;revert N;apply Pn.out));refine wk (tw @b19 (tw @b3 (tw @b5 (tw @b6 (tw @Ky (tw @Kz (tw @sZ @j7))))))) ?_;(repeat(refine Pn.mk ?_;intro N hN))))
    exact gj (sd (tw @b19 (tw @b3 (tw @b5 (tw @b6 (tw @Ky @Kz)))))) (by(try dsimp only);exact⟨by rw[yF];simp only[go_sem, ↓reduceIte,Nat.reduceEqDiff,Nat.reduceAdd,Nat.reduceSub,Nat.reduceLeDiff,reduceCtorEq,b8],by rw[yF];exact bS,by rw[yF];exact bR.frame (sd @Nat.zero_add) (by(try dsimp only);omega) (fun y hy=>by
     have h9:=dp hy
     simp only[go_sem, ↓reduceIte,Nat.reduceEqDiff,Nat.reduceAdd,Nat.reduceSub,Nat.reduceLeDiff,reduceCtorEq,h9])⟩)
   ·rw[tV hf]at yF
    rw[hf]at sZ
    (try((repeat(revert hN;revert N;apply Pn.out));refine wk (tw @b19 (tw @b3 (tw @b5 (tw @b6 (tw @Ky (tw @Kz (tw @sZ @j7))))))) ?_;(repeat(refine Pn.mk ?_;intro N hN))))
    have h0:=bS.no (oL hA AO.sub hf)
    have BD:=bR.lo
    have cx:=bR.xw.cv
    have Tx:=bR.xw.tv
    have Ox:=bR.xw.ov
    refine .inr (aI _ _ _ _ _ (fun r σ2 hq=>?_) (RH (σ:=⟨bq (bq st_b.get ⟨78008002,st_b.next+1⟩ ⟨true,3,[[.int .i64 0,.int .i64 0,.int .i64 0]]⟩) ⟨78008002,st_b.next+1⟩ ⟨true,3,[[.int .i64 (aJ l i).aQ.eZ,.int .i64 (aJ l i).aQ.eT,.int .i64 (aJ l i).aV]]⟩,st_b.next+1+1+1+1⟩) (bR.xw.frame (by(try dsimp only);omega) fun x hx=>by
     have h9:=dp hx
     simp only[go_sem, ↓reduceIte,Nat.reduceEqDiff,Nat.reduceAdd,Nat.reduceSub,Nat.reduceLeDiff,reduceCtorEq,h9]) hP.set hFU (aJ l i).aQ LC (aJ l i).aV ht h0))
    obtain⟨g2,x2⟩:=σ2
    obtain⟨rfl,Ix,Gq,KG⟩:=hq
    (try dsimp only at Ix Gq KG)
    have kt:=KG ⟨78008002,st_b.next+1⟩ (by(try dsimp only);omega) (fun e=>by rw[<-e]at Tx;(try dsimp only at Tx);omega) (fun e=>by rw[<-e]at Ox;(try dsimp only at Ox);omega)
    simp only[go_sem, ↓reduceIte,Nat.reduceEqDiff,Nat.reduceAdd,Nat.reduceSub,Nat.reduceLeDiff,reduceCtorEq]at kt
    have yG:(⟨(aJ l i).aQ,(aJ l i).aV⟩:ad)=aJ l i:=rfl
    rw[yG,List.append_assoc]at Ix
    have hd:decide ((U.1++[aJ l i]).length≠S.1.length)=true:=decide_eq_true (by rw[iN];omega)
    have ux:=iN U.1 (aJ l i)
    have rM:=rU U.1 (aJ l i)
    have Tb:=dp (i:=⟨78008002,st_b.next+1⟩) (n:=x2) (by(try dsimp only);omega)
    have c2:=dp Ix.cv
    have T2:=dp Ix.tv
    have O2:=dp Ix.ov
    have II:∀y:Id,y.ck<x1->y≠T->y≠O->g2 y=st_b.get y:=fun y hy h1 h2=>by
     have h3:=KG y (by omega) h1 h2
     have h4:=dp (i:=y) (n:=st_b.next) (by omega)
     simp only[go_sem, ↓reduceIte,Nat.reduceEqDiff,Nat.reduceAdd,Nat.reduceSub,Nat.reduceLeDiff,reduceCtorEq,h4]at h3
     exact h3
    refine hN _ _ ?_
    clear hN N
    rcases bR.u with⟨hU,b7⟩|⟨u,b7,bu,hu3,hu4,_⟩
    ·(try((repeat(revert hN;revert N;apply Pn.out));refine wk (tw @b19 (tw @b3 (tw @b5 (tw @b6 (tw @Ky (tw @Kz (tw @b7 (tw @kt @Tb)))))))) ?_;(repeat(refine Pn.mk ?_;intro N hN))))
     exact gj (sd (tw @b19 (tw @b3 (tw @b5 (tw @b6 (tw @Ky @Kz)))))) (by(try dsimp only);exact⟨by rw[yF,hd]<;>simp only[go_sem, ↓reduceIte,Nat.reduceEqDiff,Nat.reduceAdd,Nat.reduceSub,Nat.reduceLeDiff,reduceCtorEq],by rw[yF];exact bS.put (oL hA AO.sub hf),by
      rw[yF]
      refine⟨Ix.three (by(try dsimp only);omega) (sd @c2) (sd @T2) (sd @O2),.inr ⟨⟨78011003,x2+1⟩,by rw[ux,hU];simp only[go_sem, ↓reduceIte,Nat.reduceEqDiff,Nat.reduceAdd,Nat.reduceSub,Nat.reduceLeDiff,reduceCtorEq]<;>rfl,by rw[rM,hU];simp only[go_sem, ↓reduceIte,Nat.reduceEqDiff,Nat.reduceAdd,Nat.reduceSub,Nat.reduceLeDiff,reduceCtorEq]<;>rfl,by(try dsimp only);omega,by(try dsimp only);omega,by(try dsimp only);rw[iN];omega⟩,by(try dsimp only);omega,fun y hy h1 h2 h3=>?_⟩
      have h4:=dp (i:=y) (n:=x2) (by omega)
      have h5:=II y hy h1 h2
      have h6:=bR.fr y hy h1 h2 h3
      (try dsimp only at h6)
      simp only[go_sem, ↓reduceIte,Nat.reduceEqDiff,Nat.reduceAdd,Nat.reduceSub,Nat.reduceLeDiff,reduceCtorEq,h4,h5,h6]⟩)
    ·have ku:=KG u (by(try dsimp only);omega) (fun e=>by rw[e]at hu3;omega) (fun e=>by rw[e]at hu3;omega)
     have vu:=dp hu4
     simp only[go_sem, ↓reduceIte,Nat.reduceEqDiff,Nat.reduceAdd,Nat.reduceSub,Nat.reduceLeDiff,reduceCtorEq,vu,bu]at ku
     have Ve:=dp (i:=u) (n:=x2) (by omega)
     have ut:=cr (a:=u) (b:=⟨78008002,st_b.next+1⟩) (by(try dsimp only);omega)
     have UU:(U.1.map aa).length=U.1.length:=by simp
     have SU:U.1.length<=16777215:=by omega
     have uc:=cr (a:=c) (b:=u) (by omega)
     have uT:=cr (a:=T) (b:=u) (by omega)
     have uO:=cr (a:=O) (b:=u) (by omega)
     (try((repeat(revert hN;revert N;apply Pn.out));refine wk (tw @b19 (tw @b3 (tw @b5 (tw @b6 (tw @Ky (tw @Kz (tw @b7 (tw @kt (tw @Tb (tw @ku (tw @Ve (tw @ut (tw @UU @SU))))))))))))) ?_;(repeat(refine Pn.mk ?_;intro N hN))))
     exact gj (sd (tw @b19 (tw @b3 (tw @b5 (tw @b6 (tw @Ky @Kz)))))) (by(try dsimp only);exact⟨by rw[yF,hd]<;>simp only[go_sem, ↓reduceIte,Nat.reduceEqDiff,Nat.reduceAdd,Nat.reduceSub,Nat.reduceLeDiff,reduceCtorEq],by rw[yF];exact bS.put (oL hA AO.sub hf),by
      rw[yF]
      refine⟨Ix.three (by(try dsimp only);omega) (sd (tw @c2 @uc)) (sd (tw @T2 @uT)) (sd (tw @O2 @uO)),.inr ⟨⟨78011003,x2+1⟩,by rw[ux];simp only[go_sem, ↓reduceIte,Nat.reduceEqDiff,Nat.reduceAdd,Nat.reduceSub,Nat.reduceLeDiff,reduceCtorEq]<;>rfl,by rw[rM];simp only[go_sem, ↓reduceIte,Nat.reduceEqDiff,Nat.reduceAdd,Nat.reduceSub,Nat.reduceLeDiff,reduceCtorEq]<;>rfl,by(try dsimp only);omega,by(try dsimp only);omega,by(try dsimp only);rw[iN];omega⟩,by(try dsimp only);omega,fun y hy h1 h2 h3=>?_⟩
      have h4:=dp (i:=y) (n:=x2) (by omega)
      have h5:=II y hy h1 h2
      have h6:=bR.fr y hy h1 h2 h3
      have h7:=cr (a:=y) (b:=u) (by omega)
      (try dsimp only at h6)
      simp only[go_sem, ↓reduceIte,Nat.reduceEqDiff,Nat.reduceAdd,Nat.reduceSub,Nat.reduceLeDiff,reduceCtorEq,h4,h5,h6,h7]⟩)
  ·have lE:i=l.length:=by omega
   subst lE
   rw[pw]at AO b8 IK bS bR
   have qF:=yK hI hA hm
   (try((repeat(revert hN;revert N;apply Pn.out));refine wk (tw @b19 (tw @b3 (tw @b5 (tw @b6 (tw @Ky (tw @Kz @hi)))))) ?_;(repeat(refine Pn.mk ?_;intro N hN))))
   by_cases he:(gD s l S).1.length=S.1.length
   ·refine⟨0,by show 0<m;omega,gD s l S,0,false,rfl,?_,fun h=>(by cases h),fun _=>(qF.1 he).symm.trans hF,AO,bS,bR.frame (sd @Nat.zero_add) (by(try dsimp only);omega) fun x _=>rfl⟩
    simp only[go_sem, ↓reduceIte,Nat.reduceEqDiff,Nat.reduceAdd,Nat.reduceSub,Nat.reduceLeDiff,reduceCtorEq,b8,he]<;>simp
   ·obtain⟨m',rfl,Lh,Hx⟩:=qF.2 he
    refine⟨m',Nat.lt_succ_self _,gD s l S,m',true,rfl,?_,fun _=>⟨Lh.symm.trans hF,Hx⟩,fun h=>(by cases h),AO,bS,bR.frame (sd @Nat.zero_add) (by(try dsimp only);omega) fun x _=>rfl⟩
    have hd:=decide_eq_true he
    simp only[go_sem, ↓reduceIte,Nat.reduceEqDiff,Nat.reduceAdd,Nat.reduceSub,Nat.reduceLeDiff,reduceCtorEq,b8]
    rw[hd]
end Go.Proofs.YtgoelphibofcmaaGreat.V

namespace Go.Proofs.YtgoelphibofcmaaGreat.V
open Go.RowKit
attribute [local irreducible] dG wpOps gy Call
attribute [local go_sem] aM fF eP ga fW cQ upd cz K.av cR AV.cells AV.cell rowOf rowsOf part ld rowAt bq cu dD ee ik bJ dh ev fU eX dr ej dd dc dQ dR bQ bf cW bP cY cX eh ek ei cV cj de ef bK aO da cG ij bw cK bU aY dn aZ dE AV.undef bD bG dV ec dM dK cH eu ew cF ep eo cZ db List.getD_cons_zero List.getD_cons_succ List.getD_nil List.all_cons List.all_nil Bool.and_true Bool.true_and Bool.and_self Bool.not_true Bool.not_false Option.map_some Option.map_none Option.bind_some Option.bind_none List.length_cons List.length_nil List.take_succ_cons List.take_zero List.take_nil List.drop_succ_cons List.drop_zero List.drop_nil List.head?_cons List.map_cons List.map_nil List.getElem?_cons_zero List.getElem?_cons_succ List.cons_append List.nil_append List.append_nil List.length_map List.set_cons_zero List.set_cons_succ Nat.reduceMul eq_self Int.toNat_natCast Int.natCast_nonneg and_self true_and and_true decide_true decide_false Bool.false_eq_true Nat.zero_add Nat.add_zero List.contains_cons List.contains_nil Bool.or_false Bool.false_or beq_self_eq_true Nat.reduceBEq ne_eq not_true_eq_false not_false_eq_true Id.mk.injEq false_and and_false Nat.reduceLT Int.reduceLE Int.reduceLT Int.reduceToNat Int.reduceNeg Int.reduceAdd Nat.le_refl List.length_append beq_true beq_false Bool.not_eq_eq_eq_not or_false false_or dL ai aj aH bl bB cw aX bd aU bh cU bH
end Go.Proofs.YtgoelphibofcmaaGreat.V

namespace Go.Proofs.YtgoelphibofcmaaGreat.V
open Go.RowKit
attribute [local irreducible] dG wpOps gy Call
attribute [local go_sem] aM fF eP ga fW cQ upd cz K.av cR AV.cells AV.cell rowOf rowsOf part ld rowAt bq cu dD ee ik bJ dh ev fU eX dr ej dd dc dQ dR bQ bf cW bP cY cX eh ek ei cV cj de ef bK aO da cG ij bw cK bU aY dn aZ dE AV.undef bD bG dV ec dM dK cH eu ew cF ep eo cZ db List.getD_cons_zero List.getD_cons_succ List.getD_nil List.all_cons List.all_nil Bool.and_true Bool.true_and Bool.and_self Bool.not_true Bool.not_false Option.map_some Option.map_none Option.bind_some Option.bind_none List.length_cons List.length_nil List.take_succ_cons List.take_zero List.take_nil List.drop_succ_cons List.drop_zero List.drop_nil List.head?_cons List.map_cons List.map_nil List.getElem?_cons_zero List.getElem?_cons_succ List.cons_append List.nil_append List.append_nil List.length_map List.set_cons_zero List.set_cons_succ Nat.reduceMul eq_self Int.toNat_natCast Int.natCast_nonneg and_self true_and and_true decide_true decide_false Bool.false_eq_true Nat.zero_add Nat.add_zero List.contains_cons List.contains_nil Bool.or_false Bool.false_or beq_self_eq_true Nat.reduceBEq ne_eq not_true_eq_false not_false_eq_true Id.mk.injEq false_and and_false Nat.reduceLT Int.reduceLE Int.reduceLT Int.reduceToNat Int.reduceNeg Int.reduceAdd Nat.le_refl List.length_append beq_true beq_false Bool.not_eq_eq_eq_not or_false false_or dL ai aj aH bl bB cw aX bd aU bh cU bH
end Go.Proofs.YtgoelphibofcmaaGreat.V

namespace Go.Proofs.YtgoelphibofcmaaGreat.V
open Go.RowKit
attribute [local irreducible] dG wpOps gy Call
attribute [local go_sem] aM fF eP ga fW cQ upd cz K.av cR AV.cells AV.cell rowOf rowsOf part ld rowAt bq cu dD ee ik bJ dh ev fU eX dr ej dd dc dQ dR bQ bf cW bP cY cX eh ek ei cV cj de ef bK aO da cG ij bw cK bU aY dn aZ dE AV.undef bD bG dV ec dM dK cH eu ew cF ep eo cZ db List.getD_cons_zero List.getD_cons_succ List.getD_nil List.all_cons List.all_nil Bool.and_true Bool.true_and Bool.and_self Bool.not_true Bool.not_false Option.map_some Option.map_none Option.bind_some Option.bind_none List.length_cons List.length_nil List.take_succ_cons List.take_zero List.take_nil List.drop_succ_cons List.drop_zero List.drop_nil List.head?_cons List.map_cons List.map_nil List.getElem?_cons_zero List.getElem?_cons_succ List.cons_append List.nil_append List.append_nil List.length_map List.set_cons_zero List.set_cons_succ Nat.reduceMul eq_self Int.toNat_natCast Int.natCast_nonneg and_self true_and and_true decide_true decide_false Bool.false_eq_true Nat.zero_add Nat.add_zero List.contains_cons List.contains_nil Bool.or_false Bool.false_or beq_self_eq_true Nat.reduceBEq ne_eq not_true_eq_false not_false_eq_true Id.mk.injEq false_and and_false Nat.reduceLT Int.reduceLE Int.reduceLT Int.reduceToNat Int.reduceNeg Int.reduceAdd Nat.le_refl List.length_append beq_true beq_false Bool.not_eq_eq_eq_not or_false false_or dL ai aj aH bl bB cw aX bd aU bh cU bH
theorem th {s:aA} {l:List ad}:jd s l=0↔vn s/\jk s.aE l/\iR s.bc.ah l=true:=by
 unfold jd
 cases b:rl s l
 ·simp;intro h1 h2;exact absurd (rm.2 ⟨h1,h2⟩) (by rw[b];simp)
 ·obtain⟨h1,h2⟩:=rm.1 b
  cases iR s.bc.ah l<;>simp[h1,h2]
end Go.Proofs.YtgoelphibofcmaaGreat.V

namespace Go.Proofs.YtgoelphibofcmaaGreat.V
open Go.RowKit
attribute [local irreducible] dG wpOps gy Call
attribute [local go_sem] aM fF eP ga fW cQ upd cz K.av cR AV.cells AV.cell rowOf rowsOf part ld rowAt bq cu dD ee ik bJ dh ev fU eX dr ej dd dc dQ dR bQ bf cW bP cY cX eh ek ei cV cj de ef bK aO da cG ij bw cK bU aY dn aZ dE AV.undef bD bG dV ec dM dK cH eu ew cF ep eo cZ db List.getD_cons_zero List.getD_cons_succ List.getD_nil List.all_cons List.all_nil Bool.and_true Bool.true_and Bool.and_self Bool.not_true Bool.not_false Option.map_some Option.map_none Option.bind_some Option.bind_none List.length_cons List.length_nil List.take_succ_cons List.take_zero List.take_nil List.drop_succ_cons List.drop_zero List.drop_nil List.head?_cons List.map_cons List.map_nil List.getElem?_cons_zero List.getElem?_cons_succ List.cons_append List.nil_append List.append_nil List.length_map List.set_cons_zero List.set_cons_succ Nat.reduceMul eq_self Int.toNat_natCast Int.natCast_nonneg and_self true_and and_true decide_true decide_false Bool.false_eq_true Nat.zero_add Nat.add_zero List.contains_cons List.contains_nil Bool.or_false Bool.false_or beq_self_eq_true Nat.reduceBEq ne_eq not_true_eq_false not_false_eq_true Id.mk.injEq false_and and_false Nat.reduceLT Int.reduceLE Int.reduceLT Int.reduceToNat Int.reduceNeg Int.reduceAdd Nat.le_refl List.length_append beq_true beq_false Bool.not_eq_eq_eq_not or_false false_or dL ai aj aH bl bB cw aX bd aU bh cU bH
structure PG (g:Rows) (n:Nat) (A S C c T O:Id) (s:aA) (l:List ad):Prop where
 a:∃b,g A=some ⟨b,1,[[.sl (l.map aa)]]⟩
 sy:∃b,g S=some ⟨b,4,[aw s]⟩
 p:∃b,g C=some ⟨b,1,[[.ptr c 0 0]]⟩
 xw:CF g n c T O s l
 av:A.ck<n
 sv:S.ck<n
 pv:C.ck<n
theorem PG.ro {g:Rows} {n:Nat} {A S C c T O:Id} {s:aA} {l:List ad} (h:PG g n A S C c T O s l):PG (V.ro g) n A S C c T O s l:=by
 obtain⟨b,h1⟩:=h.a
 obtain⟨b2,h2⟩:=h.sy
 obtain⟨b3,h3⟩:=h.p
 exact⟨⟨false,by simp[V.ro,h1]⟩,⟨false,by simp[V.ro,h2]⟩,⟨false,by simp[V.ro,h3]⟩,h.xw.ro,h.av,h.sv,h.pv⟩
theorem PG.frame {g g':Rows} {n n':Nat} {A S C c T O:Id} {s:aA} {l:List ad} (h:PG g n A S C c T O s l) (hn:n<=n') (hf:∀x:Id,x.ck<n->g' x=g x):PG g' n' A S C c T O s l:=
 ⟨by rw[hf _ h.av];exact h.a,by rw[hf _ h.sv];exact h.sy,by rw[hf _ h.pv];exact h.p,h.xw.frame hn (hf _ h.xw.cv) (hf _ h.xw.tv),Nat.lt_of_lt_of_le h.av hn,Nat.lt_of_lt_of_le h.sv hn,Nat.lt_of_lt_of_le h.pv hn⟩
end Go.Proofs.YtgoelphibofcmaaGreat.V

namespace Go.Proofs.YtgoelphibofcmaaGreat.V
open Go.RowKit
attribute [local irreducible] dG wpOps gy Call
attribute [local go_sem] aM fF eP ga fW cQ upd cz K.av cR AV.cells AV.cell rowOf rowsOf part ld rowAt bq cu dD ee ik bJ dh ev fU eX dr ej dd dc dQ dR bQ bf cW bP cY cX eh ek ei cV cj de ef bK aO da cG ij bw cK bU aY dn aZ dE AV.undef bD bG dV ec dM dK cH eu ew cF ep eo cZ db List.getD_cons_zero List.getD_cons_succ List.getD_nil List.all_cons List.all_nil Bool.and_true Bool.true_and Bool.and_self Bool.not_true Bool.not_false Option.map_some Option.map_none Option.bind_some Option.bind_none List.length_cons List.length_nil List.take_succ_cons List.take_zero List.take_nil List.drop_succ_cons List.drop_zero List.drop_nil List.head?_cons List.map_cons List.map_nil List.getElem?_cons_zero List.getElem?_cons_succ List.cons_append List.nil_append List.append_nil List.length_map List.set_cons_zero List.set_cons_succ Nat.reduceMul eq_self Int.toNat_natCast Int.natCast_nonneg and_self true_and and_true decide_true decide_false Bool.false_eq_true Nat.zero_add Nat.add_zero List.contains_cons List.contains_nil Bool.or_false Bool.false_or beq_self_eq_true Nat.reduceBEq ne_eq not_true_eq_false not_false_eq_true Id.mk.injEq false_and and_false Nat.reduceLT Int.reduceLE Int.reduceLT Int.reduceToNat Int.reduceNeg Int.reduceAdd Nat.le_refl List.length_append beq_true beq_false Bool.not_eq_eq_eq_not or_false false_or dL ai aj aH bl bB cw aX bd aU bh cU bH
def iM (p:aD->Bool) (l:List aD):List aD:=l.filter fun x=> !p x
theorem qM {p:aD->Bool} {l:List aD} {j:Nat} (hj:j<l.length):iM p (l.take (j+1))=iM p (l.take j)++if p l[j]=true then[]else[l[j]]:=by
 unfold iM
 rw[List.take_succ_eq_append_getElem hj,List.filter_append]
 congr 1
 cases h:p l[j]<;>simp[h]
theorem DL {p:aD->Bool} {l:List aD} (h:∀b∈l,p b=false):iM p l=l:=by
 unfold iM
 rw[List.filter_eq_self]
 intro b hb
 rw[h b hb];rfl
structure Kx (p:aD->Bool) (bs:List aD) (j:Nat) (R:List aD):Prop where
 len:R.length=bs.length
 pre:R.take (iM p (bs.take j)).length=iM p (bs.take j)
 post:∀x,j<=x->R[x]? =bs[x]?
 lt:(iM p (bs.take j)).length<j
theorem Kx.start {p:aD->Bool} {bs:List aD} {i:Nat} (hi:i<bs.length) (hw:p bs[i]=true) (hp:∀x (h:x<i),p bs[x]=false):Kx p bs (i+1) bs/\(iM p (bs.take (i+1))).length=i:=by
 have h1:iM p (bs.take i)=bs.take i:=DL fun b hb=>by
  obtain⟨x,hx,rfl⟩:=List.getElem_of_mem hb
  rw[List.length_take]at hx
  rw[List.getElem_take]
  exact hp x (by omega)
 have h2:iM p (bs.take (i+1))=bs.take i:=by rw[qM hi,if_pos hw,List.append_nil,h1]
 have h3:(bs.take i).length=i:=by rw[List.length_take];omega
 exact⟨⟨rfl,by rw[h2,h3],fun _ _=>rfl,by rw[h2,h3];omega⟩,by rw[h2,h3]⟩
theorem Kx.RV {p:aD->Bool} {bs R:List aD} {j:Nat} (h:Kx p bs j R) (hj:j<bs.length) (hw:p bs[j]=true):Kx p bs (j+1) R/\(iM p (bs.take (j+1))).length=(iM p (bs.take j)).length:=by
 have h2:iM p (bs.take (j+1))=iM p (bs.take j):=by rw[qM hj,if_pos hw,List.append_nil]
 exact⟨⟨h.len,by rw[h2];exact h.pre,fun x hx=>h.post x (by omega),by rw[h2];have:=h.lt;omega⟩,by rw[h2]⟩
theorem Kx.qL {p:aD->Bool} {bs R:List aD} {j:Nat} (h:Kx p bs j R) (hj:j<bs.length) (hw:p bs[j]=false):Kx p bs (j+1) (R.set (iM p (bs.take j)).length bs[j])/\(iM p (bs.take (j+1))).length=(iM p (bs.take j)).length+1:=by
 have h2:iM p (bs.take (j+1))=iM p (bs.take j)++[bs[j]]:=by rw[qM hj,hw];rfl
 have dS:=h.lt
 have hlen:=h.len
 have uy:=h.pre
 generalize hc:(iM p (bs.take j)).length=c at *
 refine⟨⟨by rw[List.length_set];exact hlen,?_,fun x hx=>?_,by rw[h2,List.length_append,hc];simp;omega⟩,by rw[h2,List.length_append,hc];rfl⟩
 ·rw[h2,List.length_append,hc,List.length_singleton,List.take_succ_eq_append_getElem (by rw[List.length_set];omega),List.getElem_set_self,List.take_set_of_le (Nat.le_refl _),uy]
 ·rw[List.getElem?_set_ne (by omega)];exact h.post x (by omega)
theorem Kx.at_ {p:aD->Bool} {bs R:List aD} {j:Nat} (h:Kx p bs j R) (hj:j<bs.length):(R.map ae)[j]? =some (ae bs[j]):=by
 rw[List.getElem?_map,h.post j (Nat.le_refl j),List.getElem?_eq_getElem hj];rfl
end Go.Proofs.YtgoelphibofcmaaGreat.V

namespace Go.Proofs.YtgoelphibofcmaaGreat.V
open Go.RowKit
attribute [local irreducible] dG wpOps gy Call
attribute [local go_sem] aM fF eP ga fW cQ upd cz K.av cR AV.cells AV.cell rowOf rowsOf part ld rowAt bq cu dD ee ik bJ dh ev fU eX dr ej dd dc dQ dR bQ bf cW bP cY cX eh ek ei cV cj de ef bK aO da cG ij bw cK bU aY dn aZ dE AV.undef bD bG dV ec dM dK cH eu ew cF ep eo cZ db List.getD_cons_zero List.getD_cons_succ List.getD_nil List.all_cons List.all_nil Bool.and_true Bool.true_and Bool.and_self Bool.not_true Bool.not_false Option.map_some Option.map_none Option.bind_some Option.bind_none List.length_cons List.length_nil List.take_succ_cons List.take_zero List.take_nil List.drop_succ_cons List.drop_zero List.drop_nil List.head?_cons List.map_cons List.map_nil List.getElem?_cons_zero List.getElem?_cons_succ List.cons_append List.nil_append List.append_nil List.length_map List.set_cons_zero List.set_cons_succ Nat.reduceMul eq_self Int.toNat_natCast Int.natCast_nonneg and_self true_and and_true decide_true decide_false Bool.false_eq_true Nat.zero_add Nat.add_zero List.contains_cons List.contains_nil Bool.or_false Bool.false_or beq_self_eq_true Nat.reduceBEq ne_eq not_true_eq_false not_false_eq_true Id.mk.injEq false_and and_false Nat.reduceLT Int.reduceLE Int.reduceLT Int.reduceToNat Int.reduceNeg Int.reduceAdd Nat.le_refl List.length_append beq_true beq_false Bool.not_eq_eq_eq_not or_false false_or dL ai aj aH bl bB cw aX bd aU bh cU bH
structure nA (n:Nat) (px:Nat->Option Nat) (L:Nat->Nat):Prop where
 top:∀k,k<n->px k=none->L k=k
 up:∀k j,k<n->px k=some j->j<k/\L j=L k
theorem nA.root {n:Nat} {px:Nat->Option Nat} {L:Nat->Nat} (h:nA n px L) (hL:jG L) {k:Nat} (hk:k<n) (hr:L k=k):px k=none:=by
 rcases hp:px k with _|j
 ·rfl
 ·obtain⟨h1,h2⟩:=h.up k j hk hp
  have:=hL.le j
  omega
theorem nA.start (n:Nat):nA n (fun _=>none) id:=⟨fun _ _ _=>rfl,fun _ _ _ h=>by cases h⟩
theorem nA.join {n:Nat} {px:Nat->Option Nat} {L:Nat->Nat} (h:nA n px L) (hL:jG L) (b:PB) (dS:min (L b.a) (L b.b)<max (L b.a) (L b.b)):nA n (fun k=>if k=max (L b.a) (L b.b)then some (min (L b.a) (L b.b))else px k) (eO L b):=by
 have ha:=hL.idem b.a
 have hb:=hL.idem b.b
 have zQ:L (min (L b.a) (L b.b))=min (L b.a) (L b.b):=by
  rcases Nat.le_total (L b.a) (L b.b)with h|h
  ·rw[Nat.min_eq_left h,ha]
  ·rw[Nat.min_eq_right h,hb]
 have Q4:L (max (L b.a) (L b.b))=max (L b.a) (L b.b):=by
  rcases Nat.le_total (L b.a) (L b.b)with h|h
  ·rw[Nat.max_eq_right h,hb]
  ·rw[Nat.max_eq_left h,ha]
 unfold eO
 generalize min (L b.a) (L b.b)=lo at *
 generalize max (L b.a) (L b.b)=hi at *
 refine⟨fun k hk hp=>?_,fun k j hk hp=>?_⟩
 ·by_cases KJ:k=hi
  ·rw[if_pos KJ]at hp;cases hp
  ·rw[if_neg KJ]at hp
   have:=h.top k hk hp
   rw[if_neg (by omega)];exact this
 ·by_cases KJ:k=hi
  ·rw[if_pos KJ]at hp
   cases hp
   subst KJ
   exact⟨dS,by rw[if_neg (by omega),if_pos Q4,zQ]⟩
  ·rw[if_neg KJ]at hp
   obtain⟨h1,h2⟩:=h.up k j hk hp
   exact⟨h1,by rw[h2]⟩
theorem zX {L:Nat->Nat} {b:PB} (h:L b.a=L b.b):eO L b=L:=by
 funext k
 unfold eO
 rw[h,Nat.max_self,Nat.min_self]
 split
 ·rename_i h;exact h.symm
 ·rfl
def sS (G:Nat->Id) (px:Nat->Option Nat) (k:Nat):List AV:=[match px k with|none=>.gR|some j=>.ptr (G j) 0 0,.int .i64 (k:Int)]
def ui (g:Rows) (G:Nat->Id) (n:Nat) (px:Nat->Option Nat):Prop:=∀k,k<n->g (G k)=some ⟨true,2,[sS G px k]⟩
theorem ui.frame {g g':Rows} {G:Nat->Id} {n:Nat} {px:Nat->Option Nat} (h:ui g G n px) (hf:∀k,k<n->g' (G k)=g (G k)):ui g' G n px:=fun k hk=>(hf k hk).trans (h k hk)
theorem lD {G:Nat->Id} {px:Nat->Option Nat} {k:Nat} (h:px k=none):sS G px k=[.gR,.int .i64 (k:Int)]:=by rw[sS,h]
theorem tQ {G:Nat->Id} {px:Nat->Option Nat} {k j:Nat} (h:px k=some j):sS G px k=[.ptr (G j) 0 0,.int .i64 (k:Int)]:=by rw[sS,h]
theorem zE (G:Nat->Id) (n:Nat) (px:Nat->Option Nat) (L:Nat->Nat) (h:nA n px L) (k:Nat) (hk:k<n) (σ:ar) (hG:ui σ.get G n px):
  Call Tryz.prog 262 [.ptr (G k) 0 0] σ fun r σ'=>r=.ptr (G (L k)) 0 0/\σ'.get=σ.get/\σ.next<=σ'.next:=by
 refine eU eC rfl fun hl=>?_
 clear hl
 (try((repeat(revert hN;revert N;apply Pn.out));refine wk @Nat.zero_add ?_;(repeat(refine Pn.mk ?_;intro N hN))))
 refine aW (fun m env st=>∃j:Nat,m=j/\j<n/\env 0=.ptr (G j) 0 0/\L j=L k/\st.get=σ.get/\σ.next<=st.next) k ⟨k,rfl,hk,sd @Nat.zero_add,rfl,by(try dsimp only),by(try dsimp only);omega⟩ ?_
 rintro m env_b st_b ⟨j,rfl,hj,b0,hLj,hg,hle⟩ fY
 clear fY
 have fQ:=hG m hj
 rcases hp:px m with _|j
 ·rw[lD hp]at fQ
  (try((repeat(revert hN;revert N;apply Pn.out));refine wk (tw @b0 (tw @hg @fQ)) ?_;(repeat(refine Pn.mk ?_;intro N hN))))
  exact fx (.inl rfl) (vs:=[.ptr (G m) 0 0]) (sd @Nat.zero_add) ⟨by rw[<-hLj,h.top m hj hp];rfl,by first|trivial|rfl|exact hg,by(try dsimp only);omega⟩
 ·rw[tQ hp]at fQ
  obtain⟨h1,h2⟩:=h.up m j hj hp
  (try((repeat(revert hN;revert N;apply Pn.out));refine wk (tw @b0 (tw @hg @fQ)) ?_;(repeat(refine Pn.mk ?_;intro N hN))))
  exact⟨j,h1,j,rfl,by omega,sd @Nat.zero_add,by omega,by first|trivial|rfl|exact hg,by(try dsimp only);omega⟩
end Go.Proofs.YtgoelphibofcmaaGreat.V

namespace Go.Proofs.YtgoelphibofcmaaGreat.V
open Go.RowKit
attribute [local irreducible] dG wpOps gy Call
attribute [local go_sem] aM fF eP ga fW cQ upd cz K.av cR AV.cells AV.cell rowOf rowsOf part ld rowAt bq cu dD ee ik bJ dh ev fU eX dr ej dd dc dQ dR bQ bf cW bP cY cX eh ek ei cV cj de ef bK aO da cG ij bw cK bU aY dn aZ dE AV.undef bD bG dV ec dM dK cH eu ew cF ep eo cZ db List.getD_cons_zero List.getD_cons_succ List.getD_nil List.all_cons List.all_nil Bool.and_true Bool.true_and Bool.and_self Bool.not_true Bool.not_false Option.map_some Option.map_none Option.bind_some Option.bind_none List.length_cons List.length_nil List.take_succ_cons List.take_zero List.take_nil List.drop_succ_cons List.drop_zero List.drop_nil List.head?_cons List.map_cons List.map_nil List.getElem?_cons_zero List.getElem?_cons_succ List.cons_append List.nil_append List.append_nil List.length_map List.set_cons_zero List.set_cons_succ eq_self Int.toNat_natCast Int.natCast_nonneg and_self true_and and_true decide_true decide_false Bool.false_eq_true Nat.zero_add Nat.add_zero List.contains_cons List.contains_nil Bool.or_false Bool.false_or beq_self_eq_true ne_eq not_true_eq_false not_false_eq_true Id.mk.injEq false_and and_false Nat.le_refl List.length_append beq_true beq_false Bool.not_eq_eq_eq_not or_false false_or dL ai aj aH bl bB cw aX bd aU bh cU bH
abbrev mI:MK:=⟨false,[.tI]⟩
def s9 (l:List (Nat×Nat)):List (List AV):=l.map fun p=>[.int .i64 (p.1:Int),.int .i64 (p.2:Int)]
theorem BP (r:Nat):∀(l:List (Nat×Nat)) (i:Nat),((∀p∈l,p.1≠r)->gi mI [.int .i64 (r:Int)] (s9 l) i=some none)/\(∀j v,l[j]? =some (r,v)->(∀x y,x<j->l[x]? =some y->y.1≠r)->gi mI [.int .i64 (r:Int)] (s9 l) i=some (some (i+j)))
 |[],i=>⟨fun _=>rfl,fun j v h=>by simp at h⟩
 |p::l,i=>by
  obtain⟨h1,h2⟩:=BP r l (i+1)
  by_cases h:p.1=r
  ·refine⟨fun hp=>absurd h (hp p (by simp)),fun j v hj hf=>?_⟩
   have hj0:j=0:=by
    rcases Nat.eq_zero_or_pos j with h0|h0
    ·exact h0
    ·exact absurd h (hf 0 p h0 (by simp))
   subst hj0
   simp[s9,gi,eX,fU,MK.ks,h]
  ·have hd:¬((r:Int)=(p.1:Int)):=by omega
   have nT:¬r=p.1:=fun he=>h he.symm
   have step:gi mI [.int .i64 (r:Int)] (s9 (p::l)) i=gi mI [.int .i64 (r:Int)] (s9 l) (i+1):=by
    unfold s9
    simp[gi,MK.ks,eX,fU,hd,nT,h]
   rw[step]
   refine⟨fun hp=>h1 fun q hq=>hp q (by simp[hq]),fun j v hj hf=>?_⟩
   cases j with
   |zero=>simp at hj;rw[hj]at h;exact absurd rfl h
   |succ j=>
    rw[h2 j v (by simpa using hj) fun x y hx hy=>hf (x+1) y (by omega) (by simpa using hy)]
    congr 2;omega
theorem yJ {r:Nat} {l:List (Nat×Nat)}:((∀p∈l,p.1≠r)->fM mI (.int .i64 (r:Int)) (s9 l)=some none)/\(∀j v,l[j]? =some (r,v)->(∀x y,x<j->l[x]? =some y->y.1≠r)->fM mI (.int .i64 (r:Int)) (s9 l)=some (some j)):=by
 have e:fM mI (.int .i64 (r:Int)) (s9 l)=gi mI [.int .i64 (r:Int)] (s9 l) 0:=by
  unfold fM
  rw[if_pos ⟨rfl,rfl,rfl⟩];rfl
 obtain⟨h1,h2⟩:=BP r l 0
 rw[e]
 exact⟨h1,fun j v hj hf=>by rw[h2 j v hj hf,Nat.zero_add]⟩
def kR (k:Nat) (L:Nat->Nat):List (List AV):=s9 (leads k L).zipIdx
theorem DP {k:Nat} {L:Nat->Nat} (h:L k=k):kR (k+1) L=kR k L++[[.int .i64 (k:Int),.int .i64 ((leads k L).length:Int)]]:=by
 unfold kR
 rw[gQ,if_pos h,List.zipIdx_append]
 simp[s9]
theorem DO {k:Nat} {L:Nat->Nat} (h:L k≠k):kR (k+1) L=kR k L:=by
 unfold kR
 rw[gQ,if_neg h,List.append_nil]
theorem GI {k:Nat} {L:Nat->Nat} (h:L k=k):fM mI (.int .i64 (k:Int)) (kR k L)=some none:=by
 refine yJ.1 fun p hp=>?_
 have:=List.fst_mem_of_mem_zipIdx hp
 have:=(yR.1 this).1
 omega
theorem yQ {n:Nat} {L:Nat->Nat} {x y:Nat} (hx:x<(leads n L).length) (hy:y<(leads n L).length) (h:(leads n L)[x]=(leads n L)[y]):x=y:=by
 have hp:=List.pairwise_iff_getElem.1 (tX n L)
 rcases Nat.lt_trichotomy x y with dS|he|dS
 ·exact absurd h (hp x y hx hy dS)
 ·exact he
 ·exact absurd h.symm (hp y x hy hx dS)
theorem yP {k:Nat} {L:Nat->Nat} (hL:jG L) (h:L k≠k):fM mI (.int .i64 (L k:Int)) (kR k L)=some (some (bV L k))/\(kR k L)[bV L k]? =some [.int .i64 (L k:Int),.int .i64 (bV L k:Int)]/\bV L k<(leads k L).length:=by
 have dS:L k<k:=Nat.lt_of_le_of_ne (hL.le k) h
 have hn:bV L (L k)=bV L k:=by rw[bV,hL.idem,bV]
 have hg:=pz hL dS
 rw[hn,hL.idem]at hg
 have hl:bV L k<(leads k L).length:=(List.getElem?_eq_some_iff.1 hg).1
 have hz:(leads k L).zipIdx[bV L k]? =some (L k,bV L k):=by simp[List.getElem?_zipIdx,hg]
 refine⟨yJ.2 _ _ hz fun x y hx hy=>?_,by unfold kR s9;rw[List.getElem?_map,hz];rfl,hl⟩
 intro he
 rw[List.getElem?_zipIdx]at hy
 have P7:x<(leads k L).length:=by omega
 rw[List.getElem?_eq_getElem P7]at hy
 simp at hy
 rw[<-hy]at he
 simp at he
 have e2:(leads k L)[bV L k]=L k:=(List.getElem?_eq_some_iff.1 hg).2
 have:=yQ P7 hl (he.trans e2.symm)
 omega
def jL (k:Nat) (L:Nat->Nat):List (List Nat):=(leads k L).map (members k L)
theorem qz (k:Nat) (L:Nat->Nat):(jL k L).length=(leads k L).length:=by simp[jL]
theorem Dm {k:Nat} {L:Nat->Nat} (hL:jG L) (h:L k=k):jL (k+1) L=jL k L++[[k]]:=by
 unfold jL
 rw[gQ,if_pos h,List.map_append,List.map_cons,List.map_nil,jv,if_pos h,ni hL (Nat.le_refl k),List.nil_append]
 congr 1
 refine List.map_congr_left fun r hr=>?_
 have:=(yR.1 hr).1
 rw[jv,if_neg (by omega),List.append_nil]
theorem Dn {k:Nat} {L:Nat->Nat} (hL:jG L) (h:L k≠k):(jL k L)[bV L k]? =some (members k L (L k))/\jL (k+1) L=(jL k L).set (bV L k) (members k L (L k)++[k]):=by
 obtain⟨_,_,hl⟩:=yP hL h
 have dS:L k<k:=Nat.lt_of_le_of_ne (hL.le k) h
 have hg:=pz hL dS
 have hn:bV L (L k)=bV L k:=by rw[bV,hL.idem,bV]
 rw[hn,hL.idem]at hg
 refine⟨by unfold jL;rw[List.getElem?_map,hg];rfl,?_⟩
 unfold jL
 rw[gQ,if_neg h,List.append_nil]
 refine List.ext_getElem? fun i=>?_
 rw[List.getElem?_set,List.getElem?_map,List.length_map]
 by_cases hi:bV L k=i
 ·subst hi
  rw[if_pos rfl,if_pos hl,hg,Option.map_some,jv,if_pos rfl]
 ·rw[if_neg hi,List.getElem?_map]
  rcases hr:(leads k L)[i]? with _|r
  ·rfl
  ·rw[Option.map_some,Option.map_some,jv,if_neg,List.append_nil]
   rintro rfl
   obtain⟨lE,he⟩:=List.getElem?_eq_some_iff.1 hr
   have e2:(leads k L)[bV L k]=L k:=(List.getElem?_eq_some_iff.1 hg).2
   exact hi (yQ hl lE (e2.trans he.symm))
theorem B9 (k:Nat) (L:Nat->Nat) (r:Nat):(members k L r).length<=k:=by
 have:=List.length_filter_le (fun x=>L x==r) (List.range k)
 simpa[members]using this
def FM (g:Rows) (o:Id) (L:List (List Nat)) (nx:Nat):Prop:=∃rows ids,g o=some ⟨true,1,rows⟩/\eG PF g rows L ids/\ids.Nodup/\(∀i∈ids,i.site=240026008/\i.ck<nx)/\o.site=240025002/\o.ck<nx
theorem FM.frame {g g':Rows} {o:Id} {L:List (List Nat)} {nx uW:Nat} (h:FM g o L nx) (hn:nx<=uW) (hf:∀i:Id,(i.site=240026008∨i.site=240025002)->i.ck<nx->g' i=g i):FM g' o L uW:=by
 obtain⟨rows,ids,h1,h2,h3,h4,h5,h6⟩:=h
 exact⟨rows,ids,(hf o (.inr h5) h6).trans h1,h2.frame LU fun i hi=>hf i (.inl (h4 i hi).1) (h4 i hi).2,h3,fun i hi=>⟨(h4 i hi).1,by have:=(h4 i hi).2;omega⟩,h5,by omega⟩
theorem Lg {g':Rows} {v v' uW j:Nat} (h1:g' ⟨240025002,v⟩=some ⟨true,1,[[.own ⟨240026008,v'⟩ 0 1]]⟩) (h2:g' ⟨240026008,v'⟩=some ⟨true,1,[eN j]⟩) (hv:v<uW) (nW:v'<uW):FM g' ⟨240025002,v⟩ [[j]] uW:=
 ⟨_,[⟨240026008,v'⟩],h1,.one ⟨_,rfl,h2,rfl⟩,by simp,fun i hi=>by rw[List.mem_singleton.1 hi];exact⟨rfl,nW⟩,rfl,hv⟩
theorem FM.new {g:Rows} {o:Id} {L:List (List Nat)} {nx:Nat} (h:FM g o L nx) (j:Nat):∃rows,g o=some ⟨true,1,rows⟩/\rows.length=L.length/\∀(g':Rows) (v v' uW:Nat),nx<=v'->v<uW->v'<uW->g' ⟨240025002,v⟩=some ⟨true,1,rows++[[.own ⟨240026008,v'⟩ 0 1]]⟩->g' ⟨240026008,v'⟩=some ⟨true,1,[eN j]⟩->(∀i:Id,i.site=240026008->i.ck<nx->g' i=g i)->FM g' ⟨240025002,v⟩ (L++[[j]]) uW:=by
 obtain⟨rows,ids,h1,h2,h3,h4,h5,h6⟩:=h
 refine⟨rows,h1,h2.len,fun g' v v' uW hv wq KO q1 q2 q3=>⟨_,ids++[⟨240026008,v'⟩],q1,(h2.frame LU fun i hi=>q3 i (h4 i hi).1 (h4 i hi).2).app (.one ⟨_,rfl,q2,rfl⟩),?_,fun i hi=>?_,rfl,wq⟩⟩
 ·refine List.nodup_append.2 ⟨h3,by simp,fun a ha b hb qD=>?_⟩
  rw[List.mem_singleton.1 hb]at qD
  have:=(h4 a ha).2
  rw[qD]at this
  simp only at this
  omega
 ·rcases List.mem_append.1 hi with hi|hi
  ·have:=h4 i hi;exact⟨this.1,by omega⟩
  ·rw[List.mem_singleton.1 hi];exact⟨rfl,KO⟩
theorem FM.add {g:Rows} {o:Id} {L:List (List Nat)} {nx k:Nat} {La:List Nat} (h:FM g o L nx) (hk:L[k]? =some La) (j:Nat):∃rows id,g o=some ⟨true,1,rows⟩/\rows.length=L.length/\rows[k]? =some [.own id 0 La.length]/\g id=some ⟨true,1,La.map eN⟩/\id.site=240026008/\id.ck<nx/\∀(g':Rows) (v' uW:Nat),nx<=v'->v'<uW->g' o=some ⟨true,1,rows.set k [.own ⟨240026008,v'⟩ 0 (La.length+1)]⟩->g' ⟨240026008,v'⟩=some ⟨true,1,La.map eN++[[.int .i64 (j:Int)]]⟩->(∀i:Id,i.site=240026008->i.ck<nx->(i=id)=False->g' i=g i)->FM g' o (L.set k (La++[j])) uW:=by
 obtain⟨rows,ids,h1,h2,h3,h4,h5,h6⟩:=h
 have l7:k<L.length:=(List.getElem?_eq_some_iff.1 hk).1
 have TP:=kK hk l7
 obtain⟨cs,ic,du,PO,QY,wo⟩:=h2.RJ LU h3 k l7
 rw[TP]at PO
 obtain⟨id,rfl,q1,rfl⟩:=PO
 have hid:=h4 id (QY id (by simp))
 refine⟨rows,id,h1,h2.len,du,q1,hid.1,hid.2,fun g' v' uW hv wq r1 r2 r3=>?_⟩
 obtain⟨DI,s1,s2,s3⟩:=wo g' [.own ⟨240026008,v'⟩ 0 (La.length+1)] (La++[j]) [⟨240026008,v'⟩] ⟨_,by simp,by rw[r2];simp[eN],rfl⟩ (fun i hi SM=>r3 i (h4 i hi).1 (h4 i hi).2 (by
  simp only[eq_iff_iff,iff_false];rintro rfl;exact SM (by simp))) (by simp) fun i hi hc=>by
   rw[List.mem_singleton.1 hi]at hc
   have:=(h4 _ hc).2
   simp only at this
   omega
 refine⟨_,DI,r1,s1,s2,fun i hi=>?_,h5,by omega⟩
 rcases s3 i hi with h|h
 ·rw[List.mem_singleton.1 h];exact⟨rfl,wq⟩
 ·have:=h4 i h;exact⟨this.1,by omega⟩
def l5 (G:Nat->Id) (n k:Nat):List (List AV):=(List.range n).map fun i=>[if i<k then .ptr (G i) 0 0 else .gR]
theorem mK (G:Nat->Id) (n k:Nat):(l5 G n k).length=n:=by simp[l5]
theorem Hg (G:Nat->Id) (n:Nat):List.replicate n [AV.gR]=l5 G n 0:=by
 refine List.ext_getElem? fun i=>?_
 by_cases h:i<n
 ·rw[List.getElem?_replicate,if_pos h];simp[l5,h]
 ·rw[List.getElem?_eq_none (by simp;omega),List.getElem?_eq_none (by rw[mK];omega)]
theorem xk {G:Nat->Id} {n i:Nat} (h:i<n):(l5 G n n)[i]? =some [.ptr (G i) 0 0]:=by simp[l5,h]
theorem J8 {G:Nat->Id} {n k:Nat} (h:k<n):(l5 G n k).set k [.ptr (G k) 0 0]=l5 G n (k+1):=by
 refine List.ext_getElem? fun i=>?_
 rw[List.getElem?_set,mK]
 by_cases hi:k=i
 ·subst hi;rw[if_pos rfl,if_pos h];simp[l5,h]
 ·rw[if_neg hi]
  by_cases fh:i<n
  ·simp only[l5,List.getElem?_map,List.getElem?_range fh,Option.map_some]
   by_cases yz:i<k
   ·rw[if_pos yz,if_pos (by omega)]
   ·rw[if_neg yz,if_neg (by omega)]
  ·rw[List.getElem?_eq_none (by rw[mK];omega),List.getElem?_eq_none (by rw[mK];omega)]
end Go.Proofs.YtgoelphibofcmaaGreat.V

namespace Go.Proofs.YtgoelphibofcmaaGreat.V
open Go.RowKit
attribute [local irreducible] dG wpOps gy Call
attribute [local go_sem] aM fF eP ga fW cQ upd cz K.av cR AV.cells AV.cell rowOf rowsOf part ld rowAt bq cu dD ee ik bJ dh ev fU eX dr ej dd dc dQ dR bQ bf cW bP cY cX eh ek ei cV cj de ef bK aO da cG ij bw cK bU aY dn aZ dE AV.undef bD bG dV ec dM dK cH eu ew cF ep eo cZ db List.getD_cons_zero List.getD_cons_succ List.getD_nil List.all_cons List.all_nil Bool.and_true Bool.true_and Bool.and_self Bool.not_true Bool.not_false Option.map_some Option.map_none Option.bind_some Option.bind_none List.length_cons List.length_nil List.take_succ_cons List.take_zero List.take_nil List.drop_succ_cons List.drop_zero List.drop_nil List.head?_cons List.map_cons List.map_nil List.getElem?_cons_zero List.getElem?_cons_succ List.cons_append List.nil_append List.append_nil List.length_map List.set_cons_zero List.set_cons_succ Nat.reduceMul eq_self Int.toNat_natCast Int.natCast_nonneg and_self true_and and_true decide_true decide_false Bool.false_eq_true Nat.zero_add Nat.add_zero List.contains_cons List.contains_nil Bool.or_false Bool.false_or beq_self_eq_true Nat.reduceBEq ne_eq not_true_eq_false not_false_eq_true Id.mk.injEq false_and and_false Nat.reduceLT Int.reduceLE Int.reduceLT Int.reduceToNat Int.reduceNeg Int.reduceAdd Nat.le_refl List.length_append beq_true beq_false Bool.not_eq_eq_eq_not or_false false_or dL ai aj aH bl bB cw aX bd aU bh cU bH
theorem gU {o:Id} {a:Nat} (h:o.site=a) {b v:Nat} (qD:(a==b)=false):(o=⟨b,v⟩)=False/\((⟨b,v⟩:Id)=o)=False:=by
 have h1:=Ao h (v:=v) qD
 refine⟨h1,?_⟩
 simp only[eq_iff_iff,iff_false]at h1 ⊢
 exact fun h=>h1 h.symm
theorem wc (cnt:Nat) (uw:1<=cnt) (hn:cnt<=1048576) (bs:List PB) (hb:∀b∈bs,b.a<cnt/\b.b<cnt) (qc:bs.length<=1048576):aq Tryz.prog 240 [.int .i64 cnt,.sl (bs.map ay)] (.sl ((fy cnt (eB bs)).map AM)):=by
 intro n0
 refine HG NF rfl fun hl=>?_
 try simp only[q]
 clear hl
 have jI:(0:Int)<=(cnt:Int):=by omega
 have qd:(cnt:Int)<=((16777216:Nat):Int):=by omega
 obtain⟨G,hG⟩:∃G:Nat->Id,G=fun k=>⟨240005004,n0+3+4*k+2⟩:=⟨_,rfl⟩
 have Sj:∀k,(G k).site=240005004:=fun k=>by rw[hG]
 have TJ:∀k,(G k).ck=n0+3+4*k+2:=fun k=>by rw[hG]
 have TH:∀i j,i≠j->(G i=G j)=False:=fun i j h=>by
  simp only[eq_iff_iff,iff_false]
  intro he
  have h1:=TJ i
  rw[he,TJ j]at h1
  omega
 have Li:∀i s v,(240005004==s)=false->(G i=⟨s,v⟩)=False:=fun i s v h=>Ao (Sj i) h
 have hz:=Hg G cnt
 (try((repeat(revert hN;revert N;apply Pn.out));refine wk (tw @jI (tw @qd (tw @Int.le_refl @hz))) ?_;(repeat(refine Pn.mk ?_;intro N hN))))
 refine aW (fun n env st=>∃k:Nat,n=(cnt)-k/\k<=(cnt)/\env 21=.int .i64 (k:Int)/\st.get ⟨240001001,n0+1⟩=some ⟨true,1,l5 G cnt k⟩/\(st.next=n0+3+4*k/\∀j:Nat,j<k->st.get (G j)=some ⟨true,2,[[.gR,.int .i64 (j:Int)]]⟩)) (cnt) ⟨0,by omega,by omega,sl @hz,sl @hz,⟨rfl,fun j hj=>by omega⟩⟩ ?_
 rintro n_a env_a st_a ⟨k,rfl,ale,a21,ag0,mb⟩ dH
 have a0:=dH 0 (by kernel_rfl);have a1:=dH 1 (by kernel_rfl);have a5:=dH 5 (by kernel_rfl);have Nu:=dH 19 (by kernel_rfl);have a20:=dH 20 (by kernel_rfl)
 simp only[go_sem, ↓reduceIte,Nat.reduceEqDiff,Nat.reduceAdd,Nat.reduceSub,Nat.reduceLeDiff,reduceCtorEq,hz]at a0 a1 a5 Nu a20
 clear dH
 obtain⟨mb,l6⟩:=mb
 by_cases hk:(k:Int)<(cnt:Int)
 ·have cE:∀{e:Env} {gg:Rows} {nx:Nat},(e 21=.int .i64 (IntKind.i64.wrap ((k:Int)+1)))->(gg ⟨240001001,n0+1⟩=some ⟨true,1,l5 G cnt (k+1)⟩)->(nx=n0+3+4*(k+1)/\∀j:Nat,j<(k+1)->gg (G j)=some ⟨true,2,[[.gR,.int .i64 (j:Int)]]⟩)->∃m0,m0<(cnt)-k/\∃k:Nat,m0=(cnt)-k/\k<=(cnt)/\e 21=.int .i64 (k:Int)/\gg ⟨240001001,n0+1⟩=some ⟨true,1,l5 G cnt k⟩/\(nx=n0+3+4*k/\∀j:Nat,j<k->gg (G j)=some ⟨true,2,[[.gR,.int .i64 (j:Int)]]⟩):=fun x1 x2 x3=>⟨_,by omega,k+1,rfl,by omega,(by rw[x1,az (by omega)]),x2,x3⟩
  have fA:k<cnt:=by omega
  have tl:=mK G cnt k
  have eJ:=J8 (G:=G) fA
  have eQ:(l5 G cnt k)[k]? =some [.gR]:=by simp[l5,fA]
  have Sh:(⟨240005004,st_a.next+1+1⟩:Id)=G k:=by rw[hG,mb]
  have hGf:∀j,j<k->(G j=G k)=False:=fun j hj=>TH j k (by omega)
  have zL:∀j,(G j=(⟨240001001,n0+1⟩:Id))=False:=fun j=>Li j _ _ (by decide)
  have Dq:∀j,((⟨240001001,n0+1⟩:Id)=G j)=False:=fun j=>by
   have:=zL j
   simp only[eq_iff_iff,iff_false]at this ⊢
   exact fun h=>this h.symm
  (try((repeat(revert hN;revert N;apply Pn.out));refine wk (tw @a21 (tw @ag0 (tw @a0 (tw @a1 (tw @a5 (tw @Nu (tw @a20 (tw @hk (tw @tl (tw @Sh (tw @zL (tw @Dq (tw @eJ @eQ))))))))))))) ?_;(repeat(refine Pn.mk ?_;intro N hN))))
  refine cE ?_ ?_ (by
   refine⟨by(try dsimp only)<;>omega,fun j hj=>?_⟩
   by_cases yC:j=k
   ·subst yC;simp only[go_sem, ↓reduceIte,Nat.reduceEqDiff,Nat.reduceAdd,Nat.reduceSub,Nat.reduceLeDiff,reduceCtorEq,Sh,zL,Dq]
   ·have hold:=l6 j (by omega)
    have gW:=hGf j (by omega)
    simp only[go_sem, ↓reduceIte,Nat.reduceEqDiff,Nat.reduceAdd,Nat.reduceSub,Nat.reduceLeDiff,reduceCtorEq,Sh,zL,Dq,gW,hold])
  all_goals simp only[go_sem, ↓reduceIte,Nat.reduceEqDiff,Nat.reduceAdd,Nat.reduceSub,Nat.reduceLeDiff,reduceCtorEq,a21,ag0,a0,a1,a5,Nu,a20,Sh,zL,Dq,eJ]
 have l7:cnt=k:=by omega
 subst l7
 (try((repeat(revert hN;revert N;apply Pn.out));refine wk (tw @a21 (tw @ag0 (tw @a0 (tw @a1 (tw @a5 (tw @Nu (tw @a20 @hk))))))) ?_;(repeat(refine Pn.mk ?_;intro N hN))))
 refine aW (fun n env st=>∃i:Nat,n=(bs.length)-i/\i<=(bs.length)/\env 33=.int .i64 (i:Int)/\st.get ⟨240001001,n0+1⟩=some ⟨true,1,l5 G cnt cnt⟩/\(n0+3+4*cnt<=st.next)/\(∃px,nA cnt px (eB (bs.take i))/\ui st.get G cnt px)) (bs.length) ⟨0,by omega,by omega,sl (tw @a21 (tw @ag0 (tw @a0 (tw @a1 (tw @a5 (tw @Nu @a20)))))),sl (tw @a21 (tw @ag0 (tw @a0 (tw @a1 (tw @a5 (tw @Nu @a20)))))),(by(try dsimp only);omega),⟨fun _=>none,nA.start cnt,l6⟩⟩ ?_
 rintro n_b env_b st_b ⟨i,rfl,ble,uj,bg0,bI0,bI1⟩ fY
 have b0:=fY 0 (by kernel_rfl);have b1:=fY 1 (by kernel_rfl);have b5:=fY 5 (by kernel_rfl);have ye:=fY 31 (by kernel_rfl);have tG:=fY 32 (by kernel_rfl)
 simp only[go_sem, ↓reduceIte,Nat.reduceEqDiff,Nat.reduceAdd,Nat.reduceSub,Nat.reduceLeDiff,reduceCtorEq,a21,ag0,a0,a1,a5,Nu,a20]at b0 b1 b5 ye tG
 clear fY
 obtain⟨px,KL,Si⟩:=bI1
 have tl:=mK G cnt cnt
 have Qz:∀j v,(G j=(⟨240009002,v⟩:Id))=False:=fun j v=>Li j _ v (by decide)
 have zL:∀j v,(G j=(⟨240001001,v⟩:Id))=False:=fun j v=>Li j _ v (by decide)
 have Dq:∀j v,((⟨240001001,v⟩:Id)=G j)=False:=fun j v=>by
  have:=zL j v
  simp only[eq_iff_iff,iff_false]at this ⊢
  exact fun h=>this h.symm
 have hGn:∀j,j<cnt->(G j).ck<st_b.next:=fun j hj=>by rw[TJ];omega
 by_cases hi:(i:Int)<(bs.length:Int)
 ·have gj:∀{e:Env} {gg:Rows} {nx:Nat},(e 33=.int .i64 (IntKind.i64.wrap ((i:Int)+1)))->(gg ⟨240001001,n0+1⟩=some ⟨true,1,l5 G cnt cnt⟩)->(n0+3+4*cnt<=nx)->(∃px,nA cnt px (eB (bs.take (i+1)))/\ui gg G cnt px)->∃m0,m0<(bs.length)-i/\∃i:Nat,m0=(bs.length)-i/\i<=(bs.length)/\e 33=.int .i64 (i:Int)/\gg ⟨240001001,n0+1⟩=some ⟨true,1,l5 G cnt cnt⟩/\(n0+3+4*cnt<=nx)/\(∃px,nA cnt px (eB (bs.take i))/\ui gg G cnt px):=fun x1 x2 x3 x4=>⟨_,by omega,i+1,rfl,by omega,(by rw[x1,az (by omega)]),x2,x3,x4⟩
  have fh:i<bs.length:=by omega
  have j7:(bs.map ay)[i]? =some (ay bs[i]):=by simp[fh]
  have Gi:=hb _ (List.getElem_mem fh)
  have nV:bs.take (i+1)=bs.take i++[bs[i]]:=List.take_succ_eq_append_getElem fh
  have lH:eB (bs.take (i+1))=eO (eB (bs.take i)) bs[i]:=by rw[nV,wG]
  have hL:=tW (bs.take i)
  generalize eB (bs.take i)=L at *
  generalize bs[i]=b at *
  have gA:=xk (G:=G) Gi.1
  have gB:=xk (G:=G) Gi.2
  have gK:(b.a:Int)<(cnt:Int):=by omega
  have fP:(b.b:Int)<(cnt:Int):=by omega
  (try((repeat(revert hN;revert N;apply Pn.out));refine wk (tw @uj (tw @bg0 (tw @b0 (tw @b1 (tw @b5 (tw @ye (tw @tG (tw @hi (tw @j7 (tw @ay.eq_1 (tw @gA (tw @gB (tw @gK (tw @fP @tl)))))))))))))) ?_;(repeat(refine Pn.mk ?_;intro N hN))))
  refine Kr (fun e s=>e 0=.int .i64 cnt/\e 1=.sl (bs.map ay)/\e 5=.own ⟨240001001,n0+1⟩ 0 cnt/\e 31=.sl (bs.map ay)/\e 32=.int .i64 bs.length/\e 33=.int .i64 i/\e 9=.ptr (G (L b.a)) 0 0/\e 10=.ptr (G (L b.b)) 0 0/\(∀j:Id,j.ck<st_b.next->s.get j=st_b.get j)/\st_b.next<=s.next) ?_ ?_
  ·rintro e1 s1 ⟨m0,m1,m5,m31,m32,m33,m9,m10,mf,mn⟩
   refine hN _ _ ?_
   clear hN N
   have mG:ui s1.get G cnt px:=Si.frame fun k hk=>mf _ (hGn k hk)
   have mt:=(mf ⟨240001001,n0+1⟩ (by(try dsimp only);omega)).trans bg0
   have Uu:L b.a<cnt:=Nat.lt_of_le_of_lt (hL.le _) Gi.1
   have Q1:L b.b<cnt:=Nat.lt_of_le_of_lt (hL.le _) Gi.2
   have ra:=mG _ Uu
   have rb:=mG _ Q1
   rw[lD (KL.root hL Uu (hL.idem _))]at ra
   rw[lD (KL.root hL Q1 (hL.idem _))]at rb
   have put:∀(g':Rows) (lo hi:Nat),hi<cnt->g' (G hi)=some ⟨true,2,[[.ptr (G lo) 0 0,.int .i64 (hi:Int)]]⟩->(∀k,k≠hi->k<cnt->g' (G k)=s1.get (G k))->ui g' G cnt (fun k=>if k=hi then some lo else px k):=fun g' lo hi _ h1 h2 k hk=>by
    by_cases KJ:k=hi
    ·subst KJ;rw[h1,tQ (j:=lo) (if_pos rfl)]
    ·rw[h2 k KJ hk,mG k hk]
     unfold sS
     simp only[if_neg KJ]
   rcases Nat.lt_trichotomy (L b.a) (L b.b)with dS|heq|dS
   ·have Oj:(L b.a:Int)<(L b.b:Int):=by omega
    have hj:=KL.join hL b (by omega)
    rw[Nat.max_eq_right (by omega),Nat.min_eq_left (by omega),<-lH]at hj
    (try((repeat(revert hN;revert N;apply Pn.out));refine wk (tw @m0 (tw @m1 (tw @m5 (tw @m31 (tw @m32 (tw @m33 (tw @m9 (tw @m10 (tw @ra (tw @rb @Oj)))))))))) ?_;(repeat(refine Pn.mk ?_;intro N hN))))
    refine gj ?_ ?_ (by(try dsimp only);omega) (⟨_,hj,put _ _ _ Q1 (sd @Nat.zero_add) (fun k hk _=>by
     have gW:=TH k _ hk
     simp only[go_sem, ↓reduceIte,Nat.reduceEqDiff,Nat.reduceAdd,Nat.reduceSub,Nat.reduceLeDiff,reduceCtorEq,gW])⟩)
    all_goals simp only[go_sem, ↓reduceIte,Nat.reduceEqDiff,Nat.reduceAdd,Nat.reduceSub,Nat.reduceLeDiff,reduceCtorEq,m0,m1,m5,m31,m32,m33,mt,zL,Dq]
   ·have uw:¬(L b.a:Int)<(L b.b:Int):=by omega
    have Gq:¬(L b.b:Int)<(L b.a:Int):=by omega
    have LF:=zX heq
    rw[LF]at lH
    (try((repeat(revert hN;revert N;apply Pn.out));refine wk (tw @m0 (tw @m1 (tw @m5 (tw @m31 (tw @m32 (tw @m33 (tw @m9 (tw @m10 (tw @ra (tw @rb (tw @uw @Gq))))))))))) ?_;(repeat(refine Pn.mk ?_;intro N hN))))
    refine gj ?_ ?_ (by(try dsimp only);omega) (⟨_,lH▸KL,mG.frame fun k hk=>rfl⟩)
    all_goals simp only[go_sem, ↓reduceIte,Nat.reduceEqDiff,Nat.reduceAdd,Nat.reduceSub,Nat.reduceLeDiff,reduceCtorEq,m0,m1,m5,m31,m32,m33,mt]
   ·have Oj:(L b.b:Int)<(L b.a:Int):=by omega
    have uw:¬(L b.a:Int)<(L b.b:Int):=by omega
    have hj:=KL.join hL b (by omega)
    rw[Nat.max_eq_left (by omega),Nat.min_eq_right (by omega),<-lH]at hj
    (try((repeat(revert hN;revert N;apply Pn.out));refine wk (tw @m0 (tw @m1 (tw @m5 (tw @m31 (tw @m32 (tw @m33 (tw @m9 (tw @m10 (tw @ra (tw @rb (tw @Oj @uw))))))))))) ?_;(repeat(refine Pn.mk ?_;intro N hN))))
    refine gj ?_ ?_ (by(try dsimp only);omega) (⟨_,hj,put _ _ _ Uu (sd @Nat.zero_add) (fun k hk _=>by
     have gW:=TH k _ hk
     simp only[go_sem, ↓reduceIte,Nat.reduceEqDiff,Nat.reduceAdd,Nat.reduceSub,Nat.reduceLeDiff,reduceCtorEq,gW])⟩)
    all_goals simp only[go_sem, ↓reduceIte,Nat.reduceEqDiff,Nat.reduceAdd,Nat.reduceSub,Nat.reduceLeDiff,reduceCtorEq,m0,m1,m5,m31,m32,m33,mt,zL,Dq]
  ·intro N hN
   refine fa ?_ ?_<;>(try((repeat(revert hN;revert N;apply Pn.out));refine wk (tw @uj (tw @bg0 (tw @b0 (tw @b1 (tw @b5 (tw @ye (tw @tG (tw @hi (tw @j7 (tw @ay.eq_1 (tw @gA (tw @gB (tw @gK (tw @fP @tl)))))))))))))) ?_;(repeat(refine Pn.mk ?_;intro N hN))))<;>(try refine fa ?_ ?_)<;>(try((repeat(revert hN;revert N;apply Pn.out));refine wk (tw @uj (tw @bg0 (tw @b0 (tw @b1 (tw @b5 (tw @ye (tw @tG (tw @hi (tw @j7 (tw @ay.eq_1 (tw @gA (tw @gB (tw @gK (tw @fP @tl)))))))))))))) ?_;(repeat(refine Pn.mk ?_;intro N hN))))<;>(try refine fa ?_ ?_)<;>(try((repeat(revert hN;revert N;apply Pn.out));refine wk (tw @uj (tw @bg0 (tw @b0 (tw @b1 (tw @b5 (tw @ye (tw @tG (tw @hi (tw @j7 (tw @ay.eq_1 (tw @gA (tw @gB (tw @gK (tw @fP @tl)))))))))))))) ?_;(repeat(refine Pn.mk ?_;intro N hN))))
   all_goals
    refine .inr (aI _ _ _ _ _ (fun r σ1 hq=>?_) (zE G cnt px L KL b.a Gi.1 _ (Si.frame fun k hk=>sd @Qz)))
    obtain⟨g1,x1⟩:=σ1
    obtain⟨rfl,AP,Gp⟩:=hq
    (try dsimp only at AP Gp)
    subst AP
    refine hN _ _ ?_
    clear hN N
    (try((repeat(revert hN;revert N;apply Pn.out));refine wk (tw @uj (tw @bg0 (tw @b0 (tw @b1 (tw @b5 (tw @ye (tw @tG (tw @hi (tw @j7 (tw @ay.eq_1 (tw @gA (tw @gB (tw @gK (tw @fP @tl)))))))))))))) ?_;(repeat(refine Pn.mk ?_;intro N hN))))
    refine .inr (aI _ _ _ _ _ (fun r σ1 hq=>?_) (zE G cnt px L KL b.b Gi.2 _ (Si.frame fun k hk=>sd @Qz)))
    obtain⟨g1,x2⟩:=σ1
    obtain⟨rfl,AP,nf⟩:=hq
    (try dsimp only at AP nf)
    subst AP
    refine hN _ _ ?_
    clear hN N
    (try((repeat(revert hN;revert N;apply Pn.out));refine wk (tw @uj (tw @bg0 (tw @b0 (tw @b1 (tw @b5 (tw @ye (tw @tG (tw @hi (tw @j7 (tw @ay.eq_1 (tw @gA (tw @gB (tw @gK (tw @fP @tl)))))))))))))) ?_;(repeat(refine Pn.mk ?_;intro N hN))))
    exact⟨sd (tw @uj (tw @bg0 (tw @b0 (tw @b1 (tw @b5 (tw @ye @tG)))))),sd (tw @uj (tw @bg0 (tw @b0 (tw @b1 (tw @b5 (tw @ye @tG)))))),sd (tw @uj (tw @bg0 (tw @b0 (tw @b1 (tw @b5 (tw @ye @tG)))))),sd (tw @uj (tw @bg0 (tw @b0 (tw @b1 (tw @b5 (tw @ye @tG)))))),sd (tw @uj (tw @bg0 (tw @b0 (tw @b1 (tw @b5 (tw @ye @tG)))))),sd (tw @uj (tw @bg0 (tw @b0 (tw @b1 (tw @b5 (tw @ye @tG)))))),sd (tw @uj (tw @bg0 (tw @b0 (tw @b1 (tw @b5 (tw @ye @tG)))))),sd (tw @uj (tw @bg0 (tw @b0 (tw @b1 (tw @b5 (tw @ye @tG)))))),fun j hj=>by
     have hv:=dp hj
     simp only[go_sem, ↓reduceIte,Nat.reduceEqDiff,Nat.reduceAdd,Nat.reduceSub,Nat.reduceLeDiff,reduceCtorEq,hv],by(try dsimp only);omega⟩
 have lE:i=bs.length:=by omega
 subst lE
 rw[List.take_length]at KL
 have hL:=tW bs
 generalize eB bs=L at *
 (try((repeat(revert hN;revert N;apply Pn.out));refine wk (tw @uj (tw @bg0 (tw @b0 (tw @b1 (tw @b5 (tw @ye (tw @tG (tw @hi @tl)))))))) ?_;(repeat(refine Pn.mk ?_;intro N hN))))
 have l0:kR 0 L=[]:=rfl
 have oS:(none:Option Nat).isSome=false:=rfl
 have oT:∀a:Nat,(some a).isSome=true:=fun _=>rfl
 refine aW (fun n env st=>∃x:Nat,n=(cnt)-x/\x<=(cnt)/\env 81=.int .i64 (x:Int)/\st.get ⟨240001001,n0+1⟩=some ⟨true,1,l5 G cnt cnt⟩/\st.get ⟨240017000,st_b.next+1+1⟩=some ⟨true,mI.pG,kR x L⟩/\(st_b.next+3<=st.next/\ui st.get G cnt px)/\((x=0/\env 11=.cm)∨∃o:Id,env 11=.own o 0 (leads x L).length/\FM st.get o (jL x L) st.next)) (cnt) ⟨0,by omega,by omega,sl (tw @uj (tw @bg0 (tw @b0 (tw @b1 (tw @b5 (tw @ye (tw @tG @l0))))))),sl (tw @uj (tw @bg0 (tw @b0 (tw @b1 (tw @b5 (tw @ye (tw @tG @l0))))))),sl (tw @uj (tw @bg0 (tw @b0 (tw @b1 (tw @b5 (tw @ye (tw @tG @l0))))))),⟨by(try dsimp only);omega,Si.frame fun k hk=>by(have gW:=Li k 240017000 (st_b.next+1+1) (by decide));simp only[go_sem, ↓reduceIte,Nat.reduceEqDiff,Nat.reduceAdd,Nat.reduceSub,Nat.reduceLeDiff,reduceCtorEq,gW]⟩,.inl ⟨rfl,sd @Nat.zero_add⟩⟩ ?_
 rintro n_c env_c st_c ⟨x,rfl,cle,c81,cg0,cg1,cI0,cI1⟩ cfr
 have zx:=cfr 12 (by kernel_rfl);have K0:=cfr 79 (by kernel_rfl);have K1:=cfr 80 (by kernel_rfl)
 simp only[go_sem, ↓reduceIte,Nat.reduceEqDiff,Nat.reduceAdd,Nat.reduceSub,Nat.reduceLeDiff,reduceCtorEq,uj,bg0,b0,b1,b5,ye,tG,l0]at zx K0 K1
 clear cfr
 obtain⟨qF,Qn⟩:=cI0
 have N2:∀j v,(G j=(⟨240017000,v⟩:Id))=False:=fun j v=>Li j _ v (by decide)
 have NY:∀j v,(G j=(⟨240025002,v⟩:Id))=False:=fun j v=>Li j _ v (by decide)
 have N0:∀j v,(G j=(⟨240025001,v⟩:Id))=False:=fun j v=>Li j _ v (by decide)
 have N1:∀j v,(G j=(⟨240026007,v⟩:Id))=False:=fun j v=>Li j _ v (by decide)
 have NZ:∀j v,(G j=(⟨240026008,v⟩:Id))=False:=fun j v=>Li j _ v (by decide)
 by_cases hx:(x:Int)<(cnt:Int)
 ·have ig:∀{e:Env} {gg:Rows} {nx:Nat},(e 81=.int .i64 (IntKind.i64.wrap ((x:Int)+1)))->(gg ⟨240001001,n0+1⟩=some ⟨true,1,l5 G cnt cnt⟩)->(gg ⟨240017000,st_b.next+1+1⟩=some ⟨true,mI.pG,kR (x+1) L⟩)->(st_b.next+3<=nx/\ui gg G cnt px)->(((x+1)=0/\e 11=.cm)∨∃o:Id,e 11=.own o 0 (leads (x+1) L).length/\FM gg o (jL (x+1) L) nx)->∃m0,m0<(cnt)-x/\∃x:Nat,m0=(cnt)-x/\x<=(cnt)/\e 81=.int .i64 (x:Int)/\gg ⟨240001001,n0+1⟩=some ⟨true,1,l5 G cnt cnt⟩/\gg ⟨240017000,st_b.next+1+1⟩=some ⟨true,mI.pG,kR x L⟩/\(st_b.next+3<=nx/\ui gg G cnt px)/\((x=0/\e 11=.cm)∨∃o:Id,e 11=.own o 0 (leads x L).length/\FM gg o (jL x L) nx):=fun x1 x2 x3 x4 x5=>⟨_,by omega,x+1,rfl,by omega,(by rw[x1,az (by omega)]),x2,x3,x4,x5⟩
  have P8:x<cnt:=by omega
  have gX:=xk (G:=G) P8
  have hlx:L x<cnt:=Nat.lt_of_le_of_lt (hL.le _) P8
  have ra:=Qn _ hlx
  rw[lD (KL.root hL hlx (hL.idem _))]at ra
  have lF:=jP x L
  (try((repeat(revert hN;revert N;apply Pn.out));refine wk (tw @c81 (tw @cg0 (tw @cg1 (tw @zx (tw @K0 (tw @K1 (tw @hx (tw @gX @tl)))))))) ?_;(repeat(refine Pn.mk ?_;intro N hN))))
  refine .inr (aI _ _ _ _ _ (fun r σ1 hq=>?_) (zE G cnt px L KL x P8 _ (Qn.frame fun k hk=>sd @Nat.zero_add)))
  obtain⟨g1,x1⟩:=σ1
  obtain⟨rfl,AP,Gp⟩:=hq
  (try dsimp only at AP Gp)
  subst AP
  refine hN _ _ ?_
  clear hN N
  by_cases hr:L x=x
  ·rw[hr]at ra ⊢
   have l8:=GI hr
   have SK:(leads (x+1) L).length=(leads x L).length+1:=by rw[gQ,if_pos hr];simp
   have P3:=DP hr
   have SF:=Dm hL hr
   rcases cI1 with⟨rfl,nQ⟩|⟨o,nQ,cS⟩
   ·have US:kR 1 L=[[.int .i64 ((0:Nat):Int),.int .i64 ((0:Nat):Int)]]:=P3
    (try((repeat(revert hN;revert N;apply Pn.out));refine wk (tw @c81 (tw @cg0 (tw @cg1 (tw @zx (tw @K0 (tw @K1 (tw @nQ (tw @ra (tw @l8 (tw @l0 (tw @oS (tw @oT (tw @Bool.not_false @Bool.not_true))))))))))))) ?_;(repeat(refine Pn.mk ?_;intro N hN))))
    refine ig ?_ ?_ ?_ (by(try dsimp only);exact⟨by omega,Qn.frame fun k hk=>sd (tw @N2 (tw @NY (tw @NZ (tw @N0 @N1))))⟩) (.inr ⟨⟨240025002,x1+1+1+1+1⟩,by simp only[go_sem, ↓reduceIte,Nat.reduceEqDiff,Nat.reduceAdd,Nat.reduceSub,Nat.reduceLeDiff,reduceCtorEq,SK];rfl,by rw[SF];exact Lg (v':=x1+1+1+1+1+1) (sd @Nat.zero_add) (sd @eN.eq_1) (by(try dsimp only);omega) (by(try dsimp only);omega)⟩)
    all_goals simp only[go_sem, ↓reduceIte,Nat.reduceEqDiff,Nat.reduceAdd,Nat.reduceSub,Nat.reduceLeDiff,reduceCtorEq,c81,cg0,cg1,zx,K0,K1,US]
   ·obtain⟨rows,rK,sG,kj⟩:=cS.new x
    rw[qz]at sG
    have xQ:o.site=240025002:=by obtain⟨_,_,_,_,_,_,h,_⟩:=cS;exact h
    have uR:o.ck<x1:=by obtain⟨_,_,_,_,_,_,_,h⟩:=cS;omega
    have sH:=dp uR
    have Q7:=gU (o:=o) xQ (b:=240017000) (v:=st_b.next+1+1) (by decide)
    have PV:=gU (o:=o) xQ (b:=240001001) (v:=n0+1) (by decide)
    have N3:∀k,(G k=o)=False:=fun k=>by simp only[eq_iff_iff,iff_false];intro h;have h1:=Sj k;rw[h,xQ]at h1;cases h1
    have s4:(rows++[[AV.cm]])[(leads x L).length]? =some [.cm]:=by rw[<-sG];simp
    have CO:∀a:List AV,(rows++[[AV.cm]]).set (leads x L).length a=rows++[a]:=fun a=>by rw[<-sG];simp
    have e1:(leads x L).length+1<=16777216:=by omega
    have e2:((leads x L).length:Int)<(((leads x L).length+1:Nat):Int):=by omega
    (try((repeat(revert hN;revert N;apply Pn.out));refine wk (tw @c81 (tw @cg0 (tw @cg1 (tw @zx (tw @K0 (tw @K1 (tw @nQ (tw @ra (tw @l8 (tw @rK (tw @sG (tw @sH (tw @Q7 (tw @s4 (tw @CO (tw @e1 (tw @e2 (tw @oS (tw @oT (tw @Bool.not_false @Bool.not_true)))))))))))))))))))) ?_;(repeat(refine Pn.mk ?_;intro N hN))))
    refine ig ?_ ?_ ?_ (by(try dsimp only);exact⟨by omega,Qn.frame fun k hk=>sd (tw @N2 (tw @NY (tw @NZ (tw @N0 (tw @N1 @N3)))))⟩) (.inr ⟨⟨240025002,x1+1+1+1+1⟩,sd @SK,by rw[SF];exact kj _ _ (x1+1+1+1+1+1) _ (by omega) (by(try dsimp only);omega) (by(try dsimp only);omega) (sd @CO) (sd @eN.eq_1) (fun j hj hv=>by
     have q1:=dp (i:=j) (n:=x1) (by omega)
     have q2:=gU hj (b:=240017000) (v:=st_b.next+1+1) (by decide)
     have q3:(j=o)=False:=by simp only[eq_iff_iff,iff_false];intro h;rw[h,xQ]at hj;cases hj
     simp only[go_sem, ↓reduceIte,Nat.reduceEqDiff,Nat.reduceAdd,Nat.reduceSub,Nat.reduceLeDiff,reduceCtorEq,q1,q2,q3])⟩)
    all_goals simp only[go_sem, ↓reduceIte,Nat.reduceEqDiff,Nat.reduceAdd,Nat.reduceSub,Nat.reduceLeDiff,reduceCtorEq,c81,cg0,cg1,zx,K0,K1,P3,sH,Q7,PV]
  ·obtain⟨l8,IZ,dS⟩:=yP hL hr
   obtain⟨QV,SF⟩:=Dn hL hr
   have SK:(leads (x+1) L).length=(leads x L).length:=by rw[gQ,if_neg hr];simp
   have LF:=DO hr
   rcases cI1 with⟨rfl,nQ⟩|⟨o,nQ,cS⟩
   ·exact absurd (Nat.le_zero.1 (hL.le 0)) hr
   ·obtain⟨rows,id,rK,sG,hrk,hid,IL,hidv,T8⟩:=cS.add QV x
    rw[qz]at sG
    have xQ:o.site=240025002:=by obtain⟨_,_,_,_,_,_,h,_⟩:=cS;exact h
    have uR:o.ck<x1:=by obtain⟨_,_,_,_,_,_,_,h⟩:=cS;omega
    have sH:=dp uR
    have wq:=dp (i:=id) (n:=x1) (by omega)
    have j7:(bV L x:Int)<((leads x L).length:Int):=by omega
    have Q4:=B9 x L (L x)
    have hma:((members x L (L x)).map eN).length=(members x L (L x)).length:=by simp
    have e1:(members x L (L x)).length+1<=16777216:=by omega
    have PW:(o=id)=False:=by simp only[eq_iff_iff,iff_false];rintro rfl;rw[IL]at xQ;cases xQ
    have PR:(id=o)=False:=by simp only[eq_iff_iff,iff_false];rintro rfl;rw[IL]at xQ;cases xQ
    have Q7:=gU (o:=o) xQ (b:=240017000) (v:=st_b.next+1+1) (by decide)
    have PV:=gU (o:=o) xQ (b:=240001001) (v:=n0+1) (by decide)
    have hiM:=gU (o:=id) IL (b:=240017000) (v:=st_b.next+1+1) (by decide)
    have hiT:=gU (o:=id) IL (b:=240001001) (v:=n0+1) (by decide)
    have N3:∀k,(G k=o)=False:=fun k=>by simp only[eq_iff_iff,iff_false];intro h;have h1:=Sj k;rw[h,xQ]at h1;cases h1
    have TI:∀k,(G k=id)=False:=fun k=>by simp only[eq_iff_iff,iff_false];intro h;have h1:=Sj k;rw[h,IL]at h1;cases h1
    (try((repeat(revert hN;revert N;apply Pn.out));refine wk (tw @c81 (tw @cg0 (tw @cg1 (tw @zx (tw @K0 (tw @K1 (tw @nQ (tw @ra (tw @l8 (tw @IZ (tw @rK (tw @sG (tw @hrk (tw @hid (tw @sH (tw @wq (tw @j7 (tw @hma (tw @e1 (tw @PW (tw @PR (tw @Q7 (tw @PV (tw @hiM (tw @hiT (tw @oS (tw @oT (tw @Bool.not_false @Bool.not_true)))))))))))))))))))))))))))) ?_;(repeat(refine Pn.mk ?_;intro N hN))))
    refine ig ?_ ?_ ?_ (by(try dsimp only);exact⟨by omega,Qn.frame fun k hk=>sd (tw @N2 (tw @NY (tw @NZ (tw @N0 (tw @N1 (tw @N3 @TI))))))⟩) (.inr ⟨o,sd (tw @SK @nQ),by rw[SF];exact T8 _ (x1+1+1) _ (by omega) (by(try dsimp only);omega) (sd @Nat.zero_add) (sd (tw @sH (tw @wq (tw @PW @PR)))) (fun j hj hv mN=>by
     have q1:=dp (i:=j) (n:=x1) (by omega)
     have q2:=gU hj (b:=240017000) (v:=st_b.next+1+1) (by decide)
     have q3:(j=o)=False:=by simp only[eq_iff_iff,iff_false];intro h;rw[h,xQ]at hj;cases hj
     simp only[go_sem, ↓reduceIte,Nat.reduceEqDiff,Nat.reduceAdd,Nat.reduceSub,Nat.reduceLeDiff,reduceCtorEq,q1,q2,q3,mN])⟩)
    all_goals simp only[go_sem, ↓reduceIte,Nat.reduceEqDiff,Nat.reduceAdd,Nat.reduceSub,Nat.reduceLeDiff,reduceCtorEq,c81,cg0,cg1,zx,K0,K1,LF,sH,wq,Q7,PV,hiM,hiT]
 have U3:x=cnt:=by omega
 rcases cI1 with⟨h0,_⟩|⟨o,nQ,rows,ids,rK,hR,_,_,_,_⟩
 ·omega
 have sG:=hR.len
 rw[qz]at sG
 (try((repeat(revert hN;revert N;apply Pn.out));refine wk (tw @c81 (tw @cg0 (tw @cg1 (tw @zx (tw @K0 (tw @K1 (tw @hx (tw @nQ @rK)))))))) ?_;(repeat(refine Pn.mk ?_;intro N hN))))
 refine w7 (.inl rfl) (by simp only[go_sem, ↓reduceIte,Nat.reduceEqDiff,Nat.reduceAdd,Nat.reduceSub,Nat.reduceLeDiff,reduceCtorEq];rfl) ?_
 rw[uK rK (by omega) (rows':=(fy cnt L).map AM) (by
  rw[List.drop_zero,List.take_of_length_le (by omega)]
  rw[U3]at hR;exact Jm 3 hR)]
end Go.Proofs.YtgoelphibofcmaaGreat.V

namespace Go.Proofs.YtgoelphibofcmaaGreat.V
open Go.RowKit
attribute [local irreducible] dG wpOps gy Call
attribute [local go_sem] aM fF eP ga fW cQ upd cz K.av cR AV.cells AV.cell rowOf rowsOf part ld rowAt bq cu dD ee ik bJ dh ev fU eX dr ej dd dc dQ dR bQ bf cW bP cY cX eh ek ei cV cj de ef bK aO da cG ij bw cK bU aY dn aZ dE AV.undef bD bG dV ec dM dK cH eu ew cF ep eo cZ db List.getD_cons_zero List.getD_cons_succ List.getD_nil List.all_cons List.all_nil Bool.and_true Bool.true_and Bool.and_self Bool.not_true Bool.not_false Option.map_some Option.map_none Option.bind_some Option.bind_none List.length_cons List.length_nil List.take_succ_cons List.take_zero List.take_nil List.drop_succ_cons List.drop_zero List.drop_nil List.head?_cons List.map_cons List.map_nil List.getElem?_cons_zero List.getElem?_cons_succ List.cons_append List.nil_append List.append_nil List.length_map List.set_cons_zero List.set_cons_succ Nat.reduceMul eq_self Int.toNat_natCast Int.natCast_nonneg and_self true_and and_true decide_true decide_false Bool.false_eq_true Nat.zero_add Nat.add_zero List.contains_cons List.contains_nil Bool.or_false Bool.false_or beq_self_eq_true Nat.reduceBEq ne_eq not_true_eq_false not_false_eq_true Id.mk.injEq false_and and_false Nat.reduceLT Int.reduceLE Int.reduceLT Int.reduceToNat Int.reduceNeg Int.reduceAdd Nat.le_refl List.length_append beq_true beq_false Bool.not_eq_eq_eq_not or_false false_or dL ai aj aH bl bB cw aX bd aU bh cU bH
theorem Ks (b:PB) (t:Int):aq Tryz.prog 243 [.agg (ay b),.di [.int .i64 t]] (.bool (decide (b.s<t))):=by
 refine aq.body eC rfl fun hl n0=>?_
 clear hl
 (try((repeat(revert hN;revert N;apply Pn.out));refine wk @ay.eq_1 ?_;(repeat(refine Pn.mk ?_;intro N hN))))
 exact aT (b:=decide (b.s<t)) (.inl rfl) (sd @Nat.zero_add) rfl
theorem yI (bs:List PB) (t:Int) (hl:bs.length<=1048576):aq Tryz.prog 263 [.sl (bs.map ay),.fn 243 [.di [.int .i64 t]]] (.int .i64 (kh (fun b:PB=>decide (b.s<t)) bs)):=
 tU Ie (show mi Tryz.prog 263=some (s8 263 3 true) by kernel_rfl) bs hl 243 _ _ (fun x _=>Ks x t) fun g=>by simp only[ai,aj,aU,Option.map_some]
theorem H9 (bs:List PB) (hp:0<bs.length) (hl:bs.length<=1048576) (σ:ar):
  Call Tryz.prog 242 [.sl (bs.map ay)] σ fun r σ'=>∃o:Id,r=.own o 0 bs.length/\σ'.get o=some ⟨true,3,bs.map ay⟩/\σ.next<=o.ck/\o.ck<σ'.next/\∀i:Id,i.ck<σ.next->σ'.get i=σ.get i:=by
 refine eU eC rfl fun hl=>?_
 clear hl
 have hz:=all_map (l:=bs) Ni
 obtain⟨b,r,rfl⟩:∃b r,bs=b::r:=by
  cases bs with
  |nil=>simp at hp
  |cons b r=>exact⟨b,r,rfl⟩
 have lF:(List.map ay (b::r)).length=(b::r).length:=by simp
 have e1:r.length<=16777215:=by simp at hl;omega
 rw[List.map_cons]at hz lF ⊢
 (try((repeat(revert hN;revert N;apply Pn.out));refine wk (tw @hz (tw @lF @e1)) ?_;(repeat(refine Pn.mk ?_;intro N hN))))
 refine fx (.inl rfl) (vs:=[.own ⟨242003002,σ.next+1+1⟩ 0 (b::r).length]) (by simp only[ft,iq,go_sem, ↓reduceIte,Nat.reduceEqDiff,Nat.reduceAdd,Nat.reduceSub,Nat.reduceLeDiff,reduceCtorEq,List.length_cons]) ⟨⟨242003002,σ.next+1+1⟩,rfl,sd @Nat.zero_add,by(try dsimp only);omega,by(try dsimp only);omega,fun i hi=>?_⟩
 have hv:=dp hi
 simp only[go_sem, ↓reduceIte,Nat.reduceEqDiff,Nat.reduceAdd,Nat.reduceSub,Nat.reduceLeDiff,reduceCtorEq,hv]
theorem pd {t:Int} {bs:List PB} {j:Nat} (hj:j<bs.length):aL t (bs.take (j+1))=aL t (bs.take j)++if decide (bs[j].s<t)=true then[]else[bs[j]]:=by
 rw[uf t bs j hj]
 congr 1
 by_cases h:bs[j].s<t
 ·rw[if_neg (by omega),if_pos (decide_eq_true h)]
 ·rw[if_pos (by omega),if_neg (by simp only[decide_eq_true_eq];exact h)]
theorem ue {t:Int} {bs:List PB} (h:∀b∈bs,¬b.s<t):aL t bs=bs:=by
 unfold aL
 rw[List.filter_eq_self]
 intro b hb
 have:=h b hb
 exact decide_eq_true (by omega)
structure uh (t:Int) (bs:List PB) (j:Nat) (R:List PB):Prop where
 len:R.length=bs.length
 pre:R.take (aL t (bs.take j)).length=aL t (bs.take j)
 post:∀x,j<=x->R[x]? =bs[x]?
 lt:(aL t (bs.take j)).length<j
theorem uh.start {t:Int} {bs:List PB} {i:Nat} (hi:i<bs.length) (hw:bs[i].s<t) (hp:∀x (h:x<i),¬bs[x].s<t):uh t bs (i+1) bs/\(aL t (bs.take (i+1))).length=i:=by
 have h1:aL t (bs.take i)=bs.take i:=ue fun b hb=>by
  obtain⟨x,hx,rfl⟩:=List.getElem_of_mem hb
  rw[List.length_take]at hx
  rw[List.getElem_take]
  exact hp x (by omega)
 have h2:aL t (bs.take (i+1))=bs.take i:=by rw[pd hi,if_pos (decide_eq_true hw),List.append_nil,h1]
 have h3:(bs.take i).length=i:=by rw[List.length_take];omega
 exact⟨⟨rfl,by rw[h2,h3],fun _ _=>rfl,by rw[h2,h3];omega⟩,by rw[h2,h3]⟩
theorem uh.RV {t:Int} {bs R:List PB} {j:Nat} (h:uh t bs j R) (hj:j<bs.length) (hw:bs[j].s<t):uh t bs (j+1) R/\(aL t (bs.take (j+1))).length=(aL t (bs.take j)).length:=by
 have h2:aL t (bs.take (j+1))=aL t (bs.take j):=by rw[pd hj,if_pos (decide_eq_true hw),List.append_nil]
 exact⟨⟨h.len,by rw[h2];exact h.pre,fun x hx=>h.post x (by omega),by rw[h2];have:=h.lt;omega⟩,by rw[h2]⟩
theorem uh.qL {t:Int} {bs R:List PB} {j:Nat} (h:uh t bs j R) (hj:j<bs.length) (hw:¬bs[j].s<t):uh t bs (j+1) (R.set (aL t (bs.take j)).length bs[j])/\(aL t (bs.take (j+1))).length=(aL t (bs.take j)).length+1:=by
 have h2:aL t (bs.take (j+1))=aL t (bs.take j)++[bs[j]]:=by rw[pd hj,if_neg (by simp only[decide_eq_true_eq];exact hw)]
 have dS:=h.lt
 have hlen:=h.len
 have uy:=h.pre
 generalize hc:(aL t (bs.take j)).length=c at *
 refine⟨⟨by rw[List.length_set];exact hlen,?_,fun x hx=>?_,by rw[h2,List.length_append,hc];simp;omega⟩,by rw[h2,List.length_append,hc];rfl⟩
 ·rw[h2,List.length_append,hc,List.length_singleton,List.take_succ_eq_append_getElem (by rw[List.length_set];omega),List.getElem_set_self,List.take_set_of_le (Nat.le_refl _),uy]
 ·rw[List.getElem?_set_ne (by omega)];exact h.post x (by omega)
theorem uh.at_ {t:Int} {bs R:List PB} {j:Nat} (h:uh t bs j R) (hj:j<bs.length):(R.map ay)[j]? =some (ay bs[j]):=by
 rw[List.getElem?_map,h.post j (Nat.le_refl j),List.getElem?_eq_getElem hj];rfl
theorem Dd {p:PB->Bool} {bs:List PB} (h:¬0<=kh p bs):∀b∈bs,p b=false:=by
 intro b hb
 unfold kh at h
 split at h
 ·omega
 ·rename_i h1
  rw[List.findIdx_lt_length]at h1
  cases hp:p b
  ·rfl
  ·exact absurd ⟨b,hb,hp⟩ h1
theorem De {p:PB->Bool} {bs:List PB} (h:0<=kh p bs):∃i,∃hi:i<bs.length,kh p bs=(i:Int)/\p bs[i]=true/\∀x (hx:x<i),p (bs[x]'(by omega))=false:=by
 unfold kh at h ⊢
 split
 ·rename_i h1
  exact⟨bs.findIdx p,h1,rfl,List.findIdx_getElem,fun x hx=>by simpa using List.not_of_lt_findIdx hx⟩
 ·rename_i h1;rw[if_neg h1]at h;omega
theorem F4 (bs:List PB) (t:Int) (hl:bs.length<=1048576) (o T:Id) (σ:ar) (ho:σ.get o=some ⟨true,3,bs.map ay⟩) (hT:σ.get T=some ⟨true,1,[[.int .i64 t]]⟩) (uR:o.ck<σ.next) (Sr:T.ck<σ.next) (PV:o≠T):
  Call Tryz.prog 241 [.own o 0 bs.length,.fn 243 [.ptr T 0 0]] σ fun r σ'=>∃rows,r=.own o 0 (aL t bs).length/\σ'.get o=some ⟨true,3,rows⟩/\rows.take (aL t bs).length=(aL t bs).map ay/\(aL t bs).length<=rows.length/\σ.next<=σ'.next/\∀i:Id,i.ck<σ.next->i≠o->σ'.get i=σ.get i:=by
 refine eU eC rfl fun ml=>?_
 clear ml
 have Gm:=yI bs t hl
 have hzT:∀(g:Rows),g T=some ⟨true,1,[[.int .i64 t]]⟩->V.fz (dL g) 5 (.ptr T 0 0)=some (.di [.int .i64 t]):=fun g hg=>v8 (sz:=1) (rows:=[[.int .i64 t]]) (by simp[dL,hg]) rfl (by simp only[List.drop_zero,ai,aj,aH,Option.map_some])
 have AR:∀(g:Rows),g T=some ⟨true,1,[[.int .i64 t]]⟩->g o=some ⟨true,3,bs.map ay⟩->cN (dL g) 6 [.own o 0 bs.length,.fn 243 [.ptr T 0 0]]=some [.sl (bs.map ay),.fn 243 [.di [.int .i64 t]]]:=fun g h1 h2=>by
  have q1:=gr (g:=dL g) (n:=5) (e:=ay) (sz:=3) (len:=bs.length) (l:=bs) (id:=o) (by simp[dL,h2]) rfl fun b=>zF _ 4 b
  have q2:=hzT g h1
  simp only[ai,aj,q1,cU,List.all_cons,List.all_nil,AV.cell,Bool.and_true,if_true,q2,Option.map_some]
 have lI:∀(g:Rows),g T=some ⟨true,1,[[.int .i64 t]]⟩->∀b:PB,cN (dL g) 6 [.agg (ay b),.ptr T 0 0]=some [.agg (ay b),.di [.int .i64 t]]:=fun g h1 b=>by
  have q3:V.fz (dL g) 6 (.ptr T 0 0)=some (.di [.int .i64 t]):=v8 (sz:=1) (rows:=[[.int .i64 t]]) (by simp[dL,h1]) rfl (by simp only[List.drop_zero,ai,aj,aH,Option.map_some])
  simp only[ai,aj,bd,zF,q3,Option.map_some]
 (try((repeat(revert hN;revert N;apply Pn.out));refine wk @Nat.zero_add ?_;(repeat(refine Pn.mk ?_;intro N hN))))
 refine .inl ⟨_,aq.x Gm (AR _ hT ho),?_⟩
 refine hN _ _ ?_
 clear hN N
 by_cases h0:0<=kh (fun b:PB=>decide (b.s<t)) bs
 ·obtain⟨i,hi,Hw,hpi,LC⟩:=De h0
  rw[Hw]at *
  have Lv:decide ((i:Int)= -1)=false:=decide_eq_false (by omega)
  have Rm:IntKind.i64.wrap ((i:Int)+1)=((i+1:Nat):Int):=az (by omega)
  obtain⟨dF,CO⟩:=uh.start (t:=t) hi (by simpa using hpi) (fun x hx=>by simpa using LC x hx)
  (try((repeat(revert hN;revert N;apply Pn.out));refine wk (tw @Lv @Rm) ?_;(repeat(refine Pn.mk ?_;intro N hN))))
  refine aW (fun m env st=>∃(j:Nat) (R:List PB),m=bs.length-j/\env 6=.int .i64 (j:Int)/\env 5=.int .i64 ((aL t (bs.take j)).length:Int)/\st.get o=some ⟨true,3,R.map ay⟩/\uh t bs j R/\j<=bs.length/\σ.next<=st.next/\∀x:Id,x.ck<σ.next->(x=o)=False->st.get x=σ.get x) (bs.length-(i+1)) ⟨i+1,bs,rfl,sd @Rm,sd @CO,sd @ho,dF,by omega,by(try dsimp only);omega,fun x _ _=>sd @Nat.zero_add⟩ ?_
  rintro m env_b st_b ⟨j,R,rfl,b6,b5,bg,hD,gZ,hle,jA⟩ fY
  have b0:=fY 0 (by kernel_rfl)
  have b1:=fY 1 (by kernel_rfl)
  simp only[go_sem, ↓reduceIte,Nat.reduceEqDiff,Nat.reduceAdd,Nat.reduceSub,Nat.reduceLeDiff,reduceCtorEq]at b0 b1
  clear fY
  have bT:=(jA T Sr (by simp only[eq_iff_iff,iff_false];exact fun h=>PV h.symm)).trans hT
  have p4:=dp (i:=o) (n:=st_b.next) (by omega)
  have UX:=dp (i:=T) (n:=st_b.next) (by omega)
  have hRl:=hD.len
  have TU:(R.map ay).length=bs.length:=by rw[List.length_map,hRl]
  have dS:=hD.lt
  by_cases hj:(j:Int)<(bs.length:Int)
  ·have jB:j<bs.length:=by omega
   have Hv:=hD.at_ jB
   have OG:=Ks bs[j] t
   have SZ:IntKind.i64.wrap ((j:Int)+1)=((j+1:Nat):Int):=az (by omega)
   have hD1:=hD.RV jB
   have hD2:=hD.qL jB
   generalize bs[j]=b at *
   (try((repeat(revert hN;revert N;apply Pn.out));refine wk (tw @b0 (tw @b1 (tw @b5 (tw @b6 (tw @bg (tw @hj (tw @Hv (tw @ay.eq_1 (tw @p4 (tw @UX @TU)))))))))) ?_;(repeat(refine Pn.mk ?_;intro N hN))))
   refine .inl ⟨_,aq.x OG (lI _ (sd (tw @UX @bT)) b),?_⟩
   refine hN _ _ ?_
   clear hN N
   by_cases hw:b.s<t
   ·obtain⟨TF,TE⟩:=hD1 hw
    have hd:decide (b.s<t)=true:=decide_eq_true hw
    (try((repeat(revert hN;revert N;apply Pn.out));refine wk (tw @b0 (tw @b1 (tw @b5 (tw @b6 (tw @hd @SZ))))) ?_;(repeat(refine Pn.mk ?_;intro N hN))))
    refine⟨_,?_,j+1,R,rfl,sd @SZ,sd (tw @b5 @TE),sd (tw @bg @p4),TF,by omega,by(try dsimp only);omega,fun x hx HB=>?_⟩
    ·omega
    ·have P4:=dp (i:=x) (n:=st_b.next) (by omega)
     have:=jA x hx HB
     simp only[go_sem, ↓reduceIte,Nat.reduceEqDiff,Nat.reduceAdd,Nat.reduceSub,Nat.reduceLeDiff,reduceCtorEq,P4,this]
   ·obtain⟨TF,TE⟩:=hD2 hw
    have hd:decide (b.s<t)=false:=decide_eq_false hw
    have Ua:((aL t (bs.take j)).length:Int)<(bs.length:Int):=by omega
    have hwc:IntKind.i64.wrap (((aL t (bs.take j)).length:Int)+1)=(((aL t (bs.take j)).length+1:Nat):Int):=az (by omega)
    have eJ:(R.map ay).set (aL t (bs.take j)).length [.int .i64 (b.a:Int),.int .i64 (b.b:Int),.int .i64 b.s]=(R.set (aL t (bs.take j)).length b).map ay:=by rw[List.map_set];rfl
    have SE:∃y,(R.map ay)[(aL t (bs.take j)).length]? =some (ay y):=⟨R[(aL t (bs.take j)).length]'(by omega),by rw[List.getElem?_map,List.getElem?_eq_getElem (by omega)];rfl⟩
    obtain⟨y,SE⟩:=SE
    rw[ay]at SE
    (try((repeat(revert hN;revert N;apply Pn.out));refine wk (tw @b0 (tw @b1 (tw @b5 (tw @b6 (tw @bg (tw @hd (tw @SZ (tw @hwc (tw @Ua (tw @eJ (tw @SE (tw @p4 (tw @UX @TU))))))))))))) ?_;(repeat(refine Pn.mk ?_;intro N hN))))
    refine⟨_,?_,j+1,_,rfl,sd @SZ,sd (tw @hwc @TE),sd @eJ,TF,by omega,by(try dsimp only);omega,fun x hx HB=>?_⟩
    ·omega
    ·have P4:=dp (i:=x) (n:=st_b.next) (by omega)
     have:=jA x hx HB
     simp only[go_sem, ↓reduceIte,Nat.reduceEqDiff,Nat.reduceAdd,Nat.reduceSub,Nat.reduceLeDiff,reduceCtorEq,P4,this,HB]
  ·have gZ:j=bs.length:=by omega
   subst gZ
   have uy:=hD.pre
   rw[List.take_length]at b5 dS uy
   have Ua:((aL t bs).length:Int)<=(bs.length:Int):=by omega
   have Sy:(aL t bs).length<=bs.length:=by omega
   have qH:(aL t bs).length+(bs.length-(aL t bs).length)=bs.length:=by omega
   have CO:=ns t bs
   (try((repeat(revert hN;revert N;apply Pn.out));refine wk (tw @b0 (tw @b1 (tw @b5 (tw @b6 (tw @bg (tw @hj (tw @TU (tw @Ua (tw @Sy (tw @qH (tw @Nat.le_refl (tw @Nat.sub_zero (tw @Int.le_refl @p4))))))))))))) ?_;(repeat(refine Pn.mk ?_;intro N hN))))
   refine fx (.inl rfl) (vs:=[.own o 0 (aL t bs).length]) (sd @Nat.zero_add) ⟨_,rfl,by simp only[go_sem, ↓reduceIte,Nat.reduceEqDiff,Nat.reduceAdd,Nat.reduceSub,Nat.reduceLeDiff,reduceCtorEq];rfl,?_,?_,by(try dsimp only);omega,fun x hx HB=>?_⟩
   ·have hm:List.take (aL t bs).length (List.map ay R)=(aL t bs).map ay:=by rw[<-List.map_take,uy]
    rw[hm,List.append_assoc,List.take_append_of_le_length (by simp),List.take_of_length_le (by simp)]
   ·have hm:List.take (aL t bs).length (List.map ay R)=(aL t bs).map ay:=by rw[<-List.map_take,uy]
    rw[hm]
    simp only[List.length_append,List.length_map]
    omega
   ·have Rn:(x=o)=False:=by simp only[eq_iff_iff,iff_false];exact HB
    have:=jA x hx Rn
    simp only[go_sem, ↓reduceIte,Nat.reduceEqDiff,Nat.reduceAdd,Nat.reduceSub,Nat.reduceLeDiff,reduceCtorEq,Rn,this]
 ·have hn:=Dd h0
  have dF:=ue (t:=t) (bs:=bs) fun b hb=>by simpa using hn b hb
  have hd:decide (kh (fun b:PB=>decide (b.s<t)) bs= -1)=true:=decide_eq_true (by
   unfold kh at h0 ⊢
   split
   ·rename_i h;rw[if_pos h]at h0;omega
   ·rfl)
  (try((repeat(revert hN;revert N;apply Pn.out));refine wk @hd ?_;(repeat(refine Pn.mk ?_;intro N hN))))
  refine fx (.inl rfl) (vs:=[.own o 0 bs.length]) (sd @Nat.zero_add) ⟨bs.map ay,by rw[dF];rfl,sd @ho,by rw[dF,List.take_of_length_le (by simp)],by rw[dF];simp,by(try dsimp only);omega,fun x _ _=>rfl⟩
end Go.Proofs.YtgoelphibofcmaaGreat.V

namespace Go.Proofs.YtgoelphibofcmaaGreat.V
open Go.RowKit
attribute [local irreducible] dG wpOps gy Call
attribute [local go_sem] aM fF eP ga fW cQ upd cz K.av cR AV.cells AV.cell rowOf rowsOf part ld rowAt bq cu dD ee ik bJ dh ev fU eX dr ej dd dc dQ dR bQ bf cW bP cY cX eh ek ei cV cj de ef bK aO da cG ij bw cK bU aY dn aZ dE AV.undef bD bG dV ec dM dK cH eu ew cF ep eo cZ db List.getD_cons_zero List.getD_cons_succ List.getD_nil List.all_cons List.all_nil Bool.and_true Bool.true_and Bool.and_self Bool.not_true Bool.not_false Option.map_some Option.map_none Option.bind_some Option.bind_none List.length_cons List.length_nil List.take_succ_cons List.take_zero List.take_nil List.drop_succ_cons List.drop_zero List.drop_nil List.head?_cons List.map_cons List.map_nil List.getElem?_cons_zero List.getElem?_cons_succ List.cons_append List.nil_append List.append_nil List.length_map List.set_cons_zero List.set_cons_succ Nat.reduceMul eq_self Int.toNat_natCast Int.natCast_nonneg and_self true_and and_true decide_true decide_false Bool.false_eq_true Nat.zero_add Nat.add_zero List.contains_cons List.contains_nil Bool.or_false Bool.false_or beq_self_eq_true Nat.reduceBEq ne_eq not_true_eq_false not_false_eq_true Id.mk.injEq false_and and_false Nat.reduceLT Int.reduceLE Int.reduceLT Int.reduceToNat Int.reduceNeg Int.reduceAdd Nat.le_refl List.length_append beq_true beq_false Bool.not_eq_eq_eq_not or_false false_or dL ai aj aH bl bB cw aX bd aU bh cU bH
end Go.Proofs.YtgoelphibofcmaaGreat.V

namespace Go.Proofs.YtgoelphibofcmaaGreat.V
open Go.RowKit
attribute [local irreducible] dG wpOps gy Call
attribute [local go_sem] aM fF eP ga fW cQ upd cz K.av cR AV.cells AV.cell rowOf rowsOf part ld rowAt bq cu dD ee ik bJ dh ev fU eX dr ej dd dc dQ dR bQ bf cW bP cY cX eh ek ei cV cj de ef bK aO da cG ij bw cK bU aY dn aZ dE AV.undef bD bG dV ec dM dK cH eu ew cF ep eo cZ db List.getD_cons_zero List.getD_cons_succ List.getD_nil List.all_cons List.all_nil Bool.and_true Bool.true_and Bool.and_self Bool.not_true Bool.not_false Option.map_some Option.map_none Option.bind_some Option.bind_none List.length_cons List.length_nil List.take_succ_cons List.take_zero List.take_nil List.drop_succ_cons List.drop_zero List.drop_nil List.head?_cons List.map_cons List.map_nil List.getElem?_cons_zero List.getElem?_cons_succ List.cons_append List.nil_append List.append_nil List.length_map List.set_cons_zero List.set_cons_succ Nat.reduceMul eq_self Int.toNat_natCast Int.natCast_nonneg and_self true_and and_true decide_true decide_false Bool.false_eq_true Nat.zero_add Nat.add_zero List.contains_cons List.contains_nil Bool.or_false Bool.false_or beq_self_eq_true Nat.reduceBEq ne_eq not_true_eq_false not_false_eq_true Id.mk.injEq false_and and_false Nat.reduceLT Int.reduceLE Int.reduceLT Int.reduceToNat Int.reduceNeg Int.reduceAdd Nat.le_refl List.length_append beq_true beq_false Bool.not_eq_eq_eq_not or_false false_or dL ai aj aH bl bB cw aX bd aU bh cU bH
end Go.Proofs.YtgoelphibofcmaaGreat.V

namespace Go.Proofs.YtgoelphibofcmaaGreat.V
open Go.RowKit Go.Shelf
attribute [local go_sem] Oper.semAt_some
structure pS (W:World) (v:Value) (l:List ad):Prop where
 sl:∃A c,v=.slice A l.length c/\(l.length<=c/\c<=maxLen)/\(l=[]∨∃b o,A=some ⟨b,o,none⟩/\∀i,i<l.length->W.cell? ⟨b,o+(i*3+0),none⟩=some (.int .i64 (aJ l i).aQ.eZ)/\W.cell? ⟨b,o+(i*3+1),none⟩=some (.int .i64 (aJ l i).aQ.eT)/\W.cell? ⟨b,o+(i*3+2),none⟩=some (.int .i64 (aJ l i).aV))
structure HJ (K:World->World->Prop) (v:Value) (l:List ad):Prop where
 refl:∀W,K W W
 trans:∀{A B C:World},K A B->K B C->K A C
 of:∀{W W':World},Below W.heap.size W W'->K W W'
 size:∀{W W':World},K W W'->W.heap.size<=W'.heap.size
 typed:∀{W W':World},K W W'->∀(b:Nat) (cells:Array Value) (T:TypeId) (fr:Nat×Nat),W.heap[b]? =some (Obj.cells cells T fr)->T≠226->T≠246->W'.heap[b]? =W.heap[b]?
 pl:∀{W W':World},K W W'->pS W v l->pS W' v l
theorem uE {W:World} {b x:Nat} {v:Value} (h:W.cell? ⟨b,x,none⟩=some v):b<W.heap.size:=by
 rcases Nat.lt_or_ge b W.heap.size with h1|h1
 ·exact h1
 ·simp[World.cell?,Array.getElem?_eq_none h1]at h
theorem pS.below {W W':World} {v:Value} {l:List ad} (h:pS W v l) (k:Below W.heap.size W W'):pS W' v l:=by
 obtain⟨A,c,rfl,hm,hc⟩:=h.sl
 refine⟨A,c,rfl,hm,?_⟩
 rcases hc with h0|⟨b,o,rfl,ko⟩
 ·exact .inl h0
 ·refine .inr ⟨b,o,rfl,fun i hi=>?_⟩
  obtain⟨h1,h2,h3⟩:=ko i hi
  have hb:=uE h1
  exact⟨(k.cell (p:=⟨b,_,none⟩) hb).trans h1,(k.cell (p:=⟨b,_,none⟩) hb).trans h2,(k.cell (p:=⟨b,_,none⟩) hb).trans h3⟩
theorem pS.eM {P:Program} {W:World} {v:Value} {l:List ad} (h:pS W v l):jF P W (fun b=>b<W.heap.size) (.sl (l.map aa)) v:=by
 obtain⟨A,c,rfl,hm,hc⟩:=h.sl
 rcases hc with rfl|⟨b,o,rfl,ko⟩
 ·exact .AU A c (by simpa using hm.2)
 by_cases MU:l=[]
 ·subst MU;exact .AU _ c (by simpa using hm.2)
 ·have jN:0<l.length:=List.length_pos_iff.2 MU
  have hb:=uE (ko 0 jN).1
  refine .sl (l.map aa) b o l.length c 3 (fun i j=>if j=0 then .int .i64 (aJ l i).aQ.eZ else if j=1 then .int .i64 (aJ l i).aQ.eT else .int .i64 (aJ l i).aV) (by simp) hm.1 hm.2 hb (fun cs du=>?_) (fun cs du a ha=>?_) (fun i j hi hj=>?_) (fun i j cs a hi hj=>?_)
  ·obtain⟨x,_,rfl⟩:=List.mem_map.1 du;rfl
  ·obtain⟨x,_,rfl⟩:=List.mem_map.1 du
   simp[aa]at ha
   rcases ha with rfl|rfl|rfl<;>rfl
  ·obtain⟨h1,h2,h3⟩:=ko i hi
   match j,hj with
   |0,_=>exact h1
   |1,_=>exact h2
   |2,_=>exact h3
   |j+3,hj=>omega
  ·have lE:i<l.length:=by have:=(List.getElem?_eq_some_iff.1 hi).1;simpa using this
   rw[fw lE]at hi
   injection hi with hi
   subst hi
   match j,hj with
   |0,hj=>simp[aa]at hj;subst hj;exact .int _ _
   |1,hj=>simp[aa]at hj;subst hj;exact .int _ _
   |2,hj=>simp[aa]at hj;subst hj;exact .int _ _
   |j+3,hj=>simp[aa]at hj
theorem Be {P:Program} (hm:P.follows .mixedOrders=true) {f:Nat} {args:List AV} {vs:Array Value} {w:World} {r:AV} (h:aq P f args r) (hr:∀g r0,gx g 6 r0=some r->r0=r) (hA:fe P w (fun b=>b<w.heap.size) (fun _=>none) args vs):
  Calls P f vs w fun e w'=>∃D ι u,e=.returned u/\cI P w' D ι r u/\Below w.heap.size w w':=by
 have hs:=gq hm (h 0) w.heap.size (fun b=>b<w.heap.size) (fun _=>none) w vs ⟨Nat.le_refl _,fun _ h=>h,fun id r h=>(by cases h),fun id jW r r' B B' h=>(by cases h)⟩ (fun id h=>absurd rfl h) hA
 refine hs.mono ?_
 rintro e w' ⟨r0,g',n',D',ι',u,rfl,⟨r',hz,rfl⟩,dF,hsim,_,_,gL⟩
 have:=hr _ _ hz
 subst this
 exact⟨D',ι',u,rfl,gL,dF.below⟩
theorem oP {g:Rows} {n:Nat} {a:AV} {k:IntKind} {m:Int} (h:gx g (n+1) a=some (.int k m)):a=.int k m:=by
 cases a<;>rw[gx]at h<;>simp_all
 all_goals (repeat' (split at h))<;>simp_all
theorem Dk {g:Rows} {a:AV} {x y:Int} (h:gx g 6 a=some (.agg [.int .i64 x,.int .i64 y])):a=.agg [.int .i64 x,.int .i64 y]:=by
 cases a with
 |agg cs=>
  rw[uJ]at h
  simp only[Option.map_eq_some_iff,AV.agg.injEq,exists_eq_right]at h
  match cs,h with
  |[],h=>rw[cD]at h;simp at h
  |[a],h=>
   rw[bz,cD]at h
   cases ha:gx g 5 a<;>simp[ha]at h
  |[a,b],h=>
   rw[bz,bz,cD]at h
   cases ha:gx g 5 a<;>cases hb:gx g 5 b<;>simp[ha,hb]at h
   obtain⟨rfl,rfl⟩:=h
   rw[oP ha,oP hb]
  |a::b::c::r,h=>
   rw[bz,bz,bz]at h
   cases ha:gx g 5 a<;>cases hb:gx g 5 b<;>cases hc:gx g 5 c<;>cases hd:er g 5 r<;>simp[ha,hb,hc,hd]at h
 |_=>rw[gx]at h<;>simp_all<;>(repeat' (split at h))<;>simp_all
theorem Ek (W:World) (p:aD) (d:Int) (hd:jb d 0 3=true) (hx:iB p.eZ) (hy:iB p.eT):Calls Tryz.prog 149 #[.agg #[.int .i64 p.eZ,.int .i64 p.eT],.int .i64 d] W fun e W'=>e=.returned (.agg #[.int .i64 (dx p d).eZ,.int .i64 (dx p d).eT])/\Below W.heap.size W W':=by
 refine(Be mixed (Em p d hd hx hy) (fun g r0 h=>Dk h) ?_:Calls _ _ _ _ _).mono ?_
 ·exact mC (vs:= #[.int .i64 d]) (.agg _ _ (fun j=>if j=0 then .int .i64 p.eZ else .int .i64 p.eT) rfl (fun a ha=>by simp[ae]at ha;rcases ha with rfl|rfl<;>rfl) (fun j hj=>by match j,hj with|0,_=>rfl|1,_=>rfl|j+2,hj=>simp[ae]at hj;omega) (fun j a ha=>by match j,ha with|0,ha=>simp[ae]at ha;subst ha;exact .int _ _|1,ha=>simp[ae]at ha;subst ha;exact .int _ _|j+2,ha=>simp[ae]at ha)) (mC (vs:= #[]) (.int _ _) wY)
 ·rintro e W' ⟨D,ι,u,rfl,hr,hB⟩
  refine⟨?_,hB⟩
  obtain⟨vs,f,rfl,fj,_,h1,h2⟩:=iP hr
  have v0:=h1 0 (by simp[ae])
  have v1:=h1 1 (by simp[ae])
  rw[dq (h2 0 _ rfl)]at v0
  rw[dq (h2 1 _ rfl)]at v1
  obtain⟨vl⟩:=vs
  match vl,fj with
  |[a,b],_=>
   simp at v0 v1
   rw[v0,v1]
theorem xW (W:World) (l:List ad) (v:Value) (hP:pS W v l) (p:aD) (hR:nJ l) (Gg:l.length<=1048576):Calls Tryz.prog 265 #[.agg #[v],.agg #[.int .i64 p.eZ,.int .i64 p.eT]] W fun e W'=>e=.returned (.int .i64 (eD l p))/\Below W.heap.size W W':=by
 refine(Be mixed (GX l p hR Gg) (fun g r0 h=>oP h) ?_:Calls _ _ _ _ _).mono ?_
 ·exact mC (vs:= #[.agg #[.int .i64 p.eZ,.int .i64 p.eT]]) (.agg _ _ (fun _=>v) rfl (fun a ha=>by simp at ha;rw[ha];rfl) (fun j hj=>by match j,hj with|0,_=>rfl|j+1,hj=>simp at hj) (fun j a ha=>by match j,ha with|0,ha=>simp at ha;subst ha;exact hP.eM|j+1,ha=>simp at ha)) (mC (vs:= #[]) (.agg _ _ (fun j=>if j=0 then .int .i64 p.eZ else .int .i64 p.eT) rfl (fun a ha=>by simp[ae]at ha;rcases ha with rfl|rfl<;>rfl) (fun j hj=>by match j,hj with|0,_=>rfl|1,_=>rfl|j+2,hj=>simp[ae]at hj;omega) (fun j a ha=>by match j,ha with|0,ha=>simp[ae]at ha;subst ha;exact .int _ _|1,ha=>simp[ae]at ha;subst ha;exact .int _ _|j+2,ha=>simp[ae]at ha)) wY)
 ·rintro e W' ⟨D,ι,u,rfl,hr,hB⟩
  exact⟨by rw[dq hr],hB⟩
theorem grown_of {W W':World} (h:Below W.heap.size W W'):W.grownBy W' none:=⟨h.os,h.tape,h.output,h.size,fun k hk _=>h.block k hk⟩
def Cd (l:List ad) (i:Nat) (d:Int):List (Nat×Nat×Int):=if 0<=eD l (dx (aJ l i).aQ d)then[(i,(eD l (dx (aJ l i).aQ d)).toNat,d)]else[]
def kT (l:List ad) (i m:Nat):List (Nat×Nat×Int):=(List.range m).flatMap fun j:Nat=>Cd l i (1-(j:Int))
def lp (l:List ad) (n:Nat):List (Nat×Nat×Int):=(List.range n).flatMap fun i=>kT l i 2
theorem mz (l:List ad) (n:Nat):lp l (n+1)=lp l n++kT l n 2:=by simp[lp,List.range_succ]
theorem nk (l:List ad) (i m:Nat):kT l i (m+1)=kT l i m++Cd l i (1-(m:Int)):=by simp[kT,List.range_succ]
theorem OO (l:List ad) {k m:Nat} (hk:k<l.length) (hm:m<=2):lp l k++kT l k m <+:lp l l.length:=by
 have h1:∀d,lp l k <+:lp l (k+d):=fun d=>by
  induction d with
  |zero=>exact List.prefix_refl _
  |succ d ih=>rw[<-Nat.add_assoc,mz l (k+d)];exact ih.trans (List.prefix_append _ _)
 have h2:∀d,lp l (k+1) <+:lp l (k+1+d):=fun d=>by
  induction d with
  |zero=>exact List.prefix_refl _
  |succ d ih=>rw[<-Nat.add_assoc,mz l (k+1+d)];exact ih.trans (List.prefix_append _ _)
 have h3:=h2 (l.length-(k+1))
 rw[show k+1+(l.length-(k+1))=l.length by omega,mz]at h3
 refine List.IsPrefix.trans ?_ h3
 have h4:kT l k m <+:kT l k 2:=by
  have:m=0∨m=1∨m=2:=by omega
  rcases this with rfl|rfl|rfl
  ·exact List.nil_prefix
  ·rw[nk l k 1];exact List.prefix_append _ _
  ·exact List.prefix_refl _
 exact(List.prefix_append_right_inj _).2 h4
def Qg (l:List ad) (x:Nat×Nat×Int):Prop:=x.1<l.length/\x.2.1<l.length/\(0<=x.2.2/\x.2.2<=1)
def EU (x:Nat×Nat×Int):Array Value:= #[.agg #[.int .i64 (x.1:Int),.int .i64 (x.2.1:Int)],.int .i64 x.2.2]
theorem LK (l:List ad) (p:aD) (h:0<l.length:=by omega):eD l p<(l.length:Int):=by
 unfold eD
 split<;>omega
theorem RD (l:List ad) (hA:jE l) (q Ba:Nat) (vS:Value) (K:World->World->Prop) (kl:HJ K vS l) (J Jx:List (Nat×Nat×Int)->World->Prop) (n:Nat) (hn:1<=n)
  (hY:∀pre x W,J pre W->pre.length<(lp l l.length).length->Qg l x->YieldAt Fence.wide (n-1) Tryz.prog q (EU x) W fun e W'=>
   (e=.returned (.bool true)/\J (pre++[x]) W'/\K W W')∨(e=.returned (.bool false)/\Jx (pre++[x]) W'))
  (W:World) (hJ:AbidesFrom W.heap.size J) (NW:W.heap[Ba]? =some (.cells #[vS] 41 (0,0))) (hP:pS W vS l) (h0:J [] W):
  CallsIn Fence.wide n Tryz.prog 264 #[.func (.yield q) #[] #[],.pointer (some ⟨Ba,0,none⟩)] W fun e W'=>(∃v,e=.returned v)/\
   ((∃ys,ys=lp l l.length/\J ys W')∨(∃pre,pre <+:lp l l.length/\Jx pre W')):=by
 obtain⟨A,cp,rfl,_,_⟩:=hP.sl
 refine callsIn_of_wp Tryz.func264 rfl trivial ?_ rfl
 simp only[Tryz.ntmps264,List.size_toArray,List.length_cons,List.length_nil,Nat.reduceAdd,Nat.reduceSub,Array.replicate_succ,Array.replicate_zero,List.push_toArray,List.append_toArray,List.nil_append,List.cons_append]
 have jI:W.cell? ⟨Ba,0,none⟩=some (.slice A l.length cp):=by simp[World.cell?,NW]
 gi_wp2
 gi_loopw [11] (fun i wr=>∃k:Nat,k<=l.length/\i=.int .i64 k/\J (lp l k) wr/\K W wr)
  (fun i _=>l.length-(intOf i).toNat)
 case atStart=>exact⟨0,Nat.zero_le _,rfl,h0,kl.refl _⟩
 case round=>
  obtain⟨k,hk,rfl,hJs,hKt⟩:=hrel
  by_cases dS:k<l.length
  ·have du:∃b o,A=some ⟨b,o,none⟩/\wr.cell? ⟨b,o+k*3,none⟩=some (.int .i64 (aJ l k).aQ.eZ)/\wr.cell? ⟨b,o+k*3+1,none⟩=some (.int .i64 (aJ l k).aQ.eT)/\wr.cell? ⟨b,o+k*3+2,none⟩=some (.int .i64 (aJ l k).aV):=by
    obtain⟨A',c',hv,_,hc⟩:=(kl.pl hKt hP).sl
    cases hv
    rcases hc with rfl|⟨b,o,rfl,ko⟩
    ·simp at dS
    ·obtain⟨h1,h2,h3⟩:=ko k dS
     exact⟨b,o,rfl,by simpa using h1,by rw[Nat.add_assoc];exact h2,by rw[Nat.add_assoc];exact h3⟩
   obtain⟨b,o,rfl,hx,hy',ht⟩:=du
   gi_wp2
   obtain⟨W2,QE⟩:∃W2,(wr.alloc (.cells #[.int .i64 (aJ l k).aQ.eZ,.int .i64 (aJ l k).aQ.eT,.int .i64 (aJ l k).aV] 137)).alloc (.cells #[.int .i64 1,.int .i64 0] 2)=W2:=⟨_,rfl⟩
   have pV:Below wr.heap.size wr W2:=by rw[<-QE];exact((Below.refl _ wr).alloc (Nat.le_refl _) _).alloc (by simp) _
   have TL:W2.heap[wr.heap.size]? =some (.cells #[.int .i64 (aJ l k).aQ.eZ,.int .i64 (aJ l k).aQ.eT,.int .i64 (aJ l k).aV] 137 (0,0)):=by
    rw[<-QE,Below.heap_alloc _ _ _ (by simp)];exact World.alloc_heap_new _ _
   have TK:W2.heap[wr.heap.size+1]? =some (.cells #[.int .i64 1,.int .i64 0] 2 (0,0)):=by
    have:=World.alloc_heap_new (wr.alloc (.cells #[.int .i64 (aJ l k).aQ.eZ,.int .i64 (aJ l k).aQ.eT,.int .i64 (aJ l k).aV] 137)) (.cells #[.int .i64 1,.int .i64 0] 2)
    rw[World.size_alloc]at this
    rw[<-QE];exact this
   have N5:K W W2:=kl.trans hKt (kl.of pV)
   have hJ2:J (lp l k++kT l k 0) W2:=by
    have:=hJ _ _ _ none hJs (grown_of pV) (fun r h=>by cases h)
    simpa[kT]using this
   rw[QE]
   clear QE
   generalize wr=w1 at *
   gi_loopw [18] (fun j wr=>∃m:Nat,m<=2/\j=.int .i64 m/\J (lp l k++kT l k m) wr/\K W2 wr)
    (fun j _=>2-(intOf j).toNat)
   case atStart=>exact⟨0,by omega,rfl,hJ2,kl.refl _⟩
   case round=>
    obtain⟨m,hm,rfl,hJm,MJ⟩:=hrel
    have hm0:m=0∨m=1∨m=2:=by omega
    by_cases Hx:m<2
    ·have hkd:=kl.typed MJ _ _ _ _ TK (by decide) (by decide)
     have Lt:=kl.typed MJ _ _ _ _ TL (by decide) (by decide)
     have hka:=kl.typed (kl.trans N5 MJ) _ _ _ _ NW (by decide) (by decide)
     have cd:wr.cell? ⟨w1.heap.size+1,m,none⟩=some (.int .i64 (1-(m:Int))):=by
      rw[World.cell?_of_block hkd]
      rcases hm0 with rfl|rfl|rfl
      ·simp[World.cell?,TK]
      ·simp[World.cell?,TK]
      ·omega
     have ct0:wr.cell? ⟨w1.heap.size,0,none⟩=some (.int .i64 (aJ l k).aQ.eZ):=by rw[World.cell?_of_block Lt];simp[World.cell?,TL]
     have ct1:wr.cell? ⟨w1.heap.size,1,none⟩=some (.int .i64 (aJ l k).aQ.eT):=by rw[World.cell?_of_block Lt];simp[World.cell?,TL]
     have ca:wr.cell? ⟨Ba,0,none⟩=some (.slice (some ⟨b,o,none⟩) l.length cp):=by rw[World.cell?_of_block hka];simp[World.cell?,NW]
     have hPw:pS wr (.slice (some ⟨b,o,none⟩) l.length cp) l:=kl.pl (kl.trans N5 MJ) hP
     have hba:Ba<wr.heap.size:=by
      have h1:=(Array.getElem?_eq_some_iff.1 NW).1
      have h2:=kl.size (kl.trans N5 MJ)
      omega
     have hdm:jb (1-(m:Int)) 0 3=true:=kP (by omega)
     have Q8:=tj (hA.pt dS)
     have P3:=fun w0=>Ek w0 (aJ l k).aQ (1-(m:Int)) hdm Q8.1 Q8.2
     have hPd:pS wr.drew (.slice (some ⟨b,o,none⟩) l.length cp) l:=hPw.below ⟨rfl,rfl,rfl,Nat.le_refl _,fun _ _=>rfl⟩
     have cad:wr.drew.cell? ⟨Ba,0,none⟩=some (.slice (some ⟨b,o,none⟩) l.length cp):=ca
     have ctd0:wr.drew.cell? ⟨w1.heap.size,0,none⟩=some (.int .i64 (aJ l k).aQ.eZ):=ct0
     have ctd1:wr.drew.cell? ⟨w1.heap.size,1,none⟩=some (.int .i64 (aJ l k).aQ.eT):=ct1
     have hfw:=hA.sD
     have Q1:=hA.G3
     have Uy:=mixed
     gi_wp2
     gi_region_with_o (first|(refine⟨trivial,?_⟩;gi_at_call 149;refine(callsIn_wide.2 (P3 _)).mono ?_;rintro e w3 ⟨rfl,BA⟩;have ca3:=(BA.cell (p:=⟨Ba,0,none⟩) hba).trans cad)|(refine⟨trivial,?_⟩;gi_at_call 265;refine(callsIn_wide.2 (xW _ l _ (hPd.below BA) (dx (aJ l k).aQ (1-(m:Int))) Q1 (by omega))).mono ?_;rintro e w4 ⟨rfl,hB4⟩))
     all_goals
      have NV:Below wr.heap.size wr w4:=(show Below wr.heap.size wr wr.drew from⟨rfl,rfl,rfl,Nat.le_refl _,fun _ _=>rfl⟩).trans (BA.trans (hB4.mono BA.size))
      have hJ4:J (lp l k++kT l k m) w4:=hJ _ _ _ none hJm (grown_of NV) (fun r h=>by cases h)
      have uy:=OO l dS (m:=m+1) (by omega)
      rw[nk,<-List.append_assoc]at uy
      have qF:=nk l k m
      have hw:wrap64 ((m:Int)+1)=((m+1:Nat):Int):=by unfold wrap64;omega
      by_cases zP:0<=eD l (dx (aJ l k).aQ (1-(m:Int)))
      ·have fh:((eD l (dx (aJ l k).aQ (1-(m:Int)))).toNat:Int)=eD l (dx (aJ l k).aQ (1-(m:Int))):=by omega
       rw[Cd,if_pos zP]at uy qF
       obtain⟨fn,tmps,assign,body,hy,hR⟩:=hY _ (k,(eD l (dx (aJ l k).aQ (1-(m:Int)))).toNat,1-(m:Int)) w4 hJ4 (by
        have:=uy.length_le
        simp only[List.length_append,List.length_cons,List.length_nil]at this ⊢
        omega) ⟨dS,by
        have:eD l (dx (aJ l k).aQ (1-(m:Int)))<(l.length:Int):=LK _ _
        show(eD l (dx (aJ l k).aQ (1-(m:Int)))).toNat<l.length
        omega,by show 0<=1-(m:Int);omega,by show 1-(m:Int)<=1;omega⟩
       simp only[EU,fh]at hy
       gi_wp2
       refine hR.mono ?_
       rintro e W3 (⟨rfl,hJ3,hk3⟩|⟨rfl,hJx3⟩)
       ·gi_wp2
        go_roundw
        case rel=>exact⟨m+1,by omega,by simp,by rw[qF,<-List.append_assoc];exact hJ3,kl.trans (kl.trans MJ (kl.of NV)) hk3⟩
        case measure=>simp[intOf];omega
       ·gi_wp2
        refine bodyPost_ret (results_none rfl _ _ _) rfl ?_
        exact⟨⟨_,rfl⟩,.inr ⟨_,uy,hJx3⟩⟩
      ·rw[Cd,if_neg zP,List.append_nil]at qF
       gi_wp2
       refine⟨fun _ h=>(by cases h),?_⟩
       gi_wp2
       go_roundw
       case rel=>exact⟨m+1,by omega,by simp,by rw[qF];exact hJ4,kl.trans MJ (kl.of NV)⟩
       case measure=>simp[intOf];omega
    ·obtain rfl:m=2:=by omega
     have hfw:=hA.sD
     gi_wp2
     go_roundw
     case rel=>exact⟨k+1,by omega,by simp,by rw[mz];exact hJm,kl.trans N5 MJ⟩
     case measure=>simp[intOf];omega
  ·obtain rfl:k=l.length:=by omega
   gi_wp2
   go_end0
   exact⟨⟨_,rfl⟩,.inl ⟨_,rfl,hJs⟩⟩
end Go.Proofs.YtgoelphibofcmaaGreat.V

namespace Go.Proofs.YtgoelphibofcmaaGreat.V
open Go.RowKit Go.Shelf
attribute [local go_sem] Oper.semAt_some
theorem Aa (n:Nat) (vS:Value) (w:World):CallsIn Fence.wide n Tryz.prog 244 #[.agg #[vS]] w fun e w'=>e=.returned (.func (.func 264) #[] #[.pointer (some ⟨w.heap.size,0,none⟩)])/\w'=w.alloc (.cells #[vS] 41):=by
 refine callsIn_of_wp Tryz.func244 rfl trivial ?_ rfl
 simp only[Tryz.ntmps244,List.size_toArray,List.length_cons,List.length_nil,Nat.reduceAdd,Nat.reduceSub,Array.replicate_succ,Array.replicate_zero,List.push_toArray,List.append_toArray,List.nil_append,List.cons_append]
 gi_wp2
 go_ret
 exact⟨rfl,rfl⟩
abbrev Np (l:List ad):Type:={x:Nat×Nat×Int // Qg l x}
theorem Ju (l:List ad) (hA:jE l) (Ba n:Nat) (hn:1<=n) (vS:Value) (K:World->World->Prop) (kl:HJ K vS l) (w:World) (NW:w.heap[Ba]? =some (.cells #[vS] 41 (0,0))) (hP:pS w vS l):
  SeqStopsK Fence.wide n Tryz.prog 264 #[.pointer (some ⟨Ba,0,none⟩)] (fun x:Np l=>EU x.1) K (fun ys=>ys.map (·.1)=lp l l.length) (fun _=>True) (lp l l.length).length w:=fun q J Jx W hW hJ _ hY h0=>by
 refine(RD l hA q Ba vS K kl (fun ys W=>∃zs:List (Np l),zs.map (·.1)=ys/\J zs W) (fun ys W=>∃zs:List (Np l),zs.map (·.1)=ys/\Jx zs W) n hn (fun pre x W1 hJ1 dS wm=>?_) W (fun s A B row ⟨zs,e,h⟩ hg hr=>⟨zs,e,hJ zs A B row h hg hr⟩) ((hW.block Ba (Array.getElem?_eq_some_iff.1 NW).1).trans NW) (hP.below hW) ⟨[],rfl,h0⟩).mono ?_
 ·obtain⟨zs,rfl,h1⟩:=hJ1
  refine YieldAt.mono (hY zs ⟨x,wm⟩ W1 h1 (by simpa using dS)) ?_
  rintro e W' (⟨h2,h3,h4⟩|⟨h2,h3⟩)
  ·exact .inl ⟨h2,⟨zs++[⟨x,wm⟩],by simp,h3⟩,h4⟩
  ·exact .inr ⟨h2,⟨zs++[⟨x,wm⟩],by simp,h3⟩⟩
 ·rintro e W' ⟨h1,⟨ys,rfl,zs,h2,h3⟩|⟨pre,_,zs,h2,h3⟩⟩
  ·exact⟨h1,.inl ⟨zs,h2,h3⟩⟩
  ·exact⟨h1,.inr ⟨zs,trivial,h3⟩⟩
def zw (s:au) (l:List ad) (x:Nat×Nat×Int):List PB:=if 0<gT s (aJ l x.1).aV x.2.2 (aJ l x.2.1).aV then[⟨x.1,x.2.1,gT s (aJ l x.1).aV x.2.2 (aJ l x.2.1).aV⟩]else[]
theorem H6 (s:au) (l:List ad):cJ s l=(lp l l.length).flatMap (zw s l):=by
 have h1:∀i d,mV s l i d=(Cd l i d).flatMap (zw s l):=fun i d=>by
  unfold mV Cd
  by_cases h:0<=eD l (dx (aJ l i).aQ d)
  ·rw[if_pos h]
   simp only[List.flatMap_cons,List.flatMap_nil,List.append_nil,zw]
   by_cases h2:0<gT s (aJ l i).aV d (aJ l (eD l (dx (aJ l i).aQ d)).toNat).aV
   ·rw[if_pos ⟨h,h2⟩,if_pos h2]
   ·rw[if_neg fun hc=>h2 hc.2,if_neg h2]
  ·rw[if_neg h,if_neg fun hc=>h hc.1];rfl
 unfold cJ gO lp
 rw[List.flatMap_assoc]
 congr 1
 funext i
 unfold fZ kT
 rw[List.flatMap_assoc]
 congr 1
 funext j
 exact h1 i _
end Go.Proofs.YtgoelphibofcmaaGreat.V

namespace Go.Proofs.YtgoelphibofcmaaGreat.V
open Go.RowKit
attribute [local irreducible] dG wpOps gy Call
attribute [local go_sem] aM fF eP ga fW cQ upd cz K.av cR AV.cells AV.cell rowOf rowsOf part ld rowAt bq cu dD ee ik bJ dh ev fU eX dr ej dd dc dQ dR bQ bf cW bP cY cX eh ek ei cV cj de ef bK aO da cG ij bw cK bU aY dn aZ dE AV.undef bD bG dV ec dM dK cH eu ew cF ep eo cZ db List.getD_cons_zero List.getD_cons_succ List.getD_nil List.all_cons List.all_nil Bool.and_true Bool.true_and Bool.and_self Bool.not_true Bool.not_false Option.map_some Option.map_none Option.bind_some Option.bind_none List.length_cons List.length_nil List.take_succ_cons List.take_zero List.take_nil List.drop_succ_cons List.drop_zero List.drop_nil List.head?_cons List.map_cons List.map_nil List.getElem?_cons_zero List.getElem?_cons_succ List.cons_append List.nil_append List.append_nil List.length_map List.set_cons_zero List.set_cons_succ Nat.reduceMul eq_self Int.toNat_natCast Int.natCast_nonneg and_self true_and and_true decide_true decide_false Bool.false_eq_true Nat.zero_add Nat.add_zero List.contains_cons List.contains_nil Bool.or_false Bool.false_or beq_self_eq_true Nat.reduceBEq ne_eq not_true_eq_false not_false_eq_true Id.mk.injEq false_and and_false Nat.reduceLT Int.reduceLE Int.reduceLT Int.reduceToNat Int.reduceNeg Int.reduceAdd Nat.le_refl List.length_append beq_true beq_false Bool.not_eq_eq_eq_not or_false false_or dL ai aj aH bl bB cw aX bd aU bh cU bH
def Ap (bs:List PB):AV:=if bs=[]then .cm else .sl (bs.map ay)
theorem Mm:Ap []=.cm:=rfl
theorem Aq {bs:List PB} (h:0<bs.length):Ap bs=.sl (bs.map ay):=by
 unfold Ap
 rw[if_neg (by rintro rfl;simp at h)]
theorem xM (cnt:Nat) (uw:1<=cnt) (hn:cnt<=1048576) (bs:List PB) (hb:∀b∈bs,b.a<cnt/\b.b<cnt) (hp:0<bs.length) (qc:bs.length<=1048576) (t:Int):aq Tryz.prog 221 [.int .i64 cnt,.sl (bs.map ay),.int .i64 t] (.gJ [.int .i64 (leads cnt (eB (aL t bs))).length,Ap (dt (eB (aL t bs)) bs)]):=by
 refine aq.body eC rfl fun hl n0=>?_
 clear hl
 (try((repeat(revert hN;revert N;apply Pn.out));refine wk @Nat.zero_add ?_;(repeat(refine Pn.mk ?_;intro N hN))))
 refine .inr (aI _ _ _ _ _ (fun r σ1 hq=>?_) (H9 bs hp qc _))
 obtain⟨o,rfl,ho,Lz,LB,QT⟩:=hq
 (try dsimp only at ho Lz LB QT)
 refine hN _ _ ?_
 clear hN N
 (try((repeat(revert hN;revert N;apply Pn.out));refine wk @Nat.zero_add ?_;(repeat(refine Pn.mk ?_;intro N hN))))
 refine .inr (aI _ _ _ _ _ (fun r σ2 hq=>?_) (F4 bs t qc o ⟨221000000,n0⟩ _ ho (by rw[QT _ (by(try dsimp only);omega)];simp only[go_sem, ↓reduceIte,Nat.reduceEqDiff,Nat.reduceAdd,Nat.reduceSub,Nat.reduceLeDiff,reduceCtorEq]) (by(try dsimp only);omega) (by(try dsimp only);omega) (by rintro rfl;simp only at Lz;omega)))
 obtain⟨rows,rfl,fQ,hrt,sG,nf,IJ⟩:=hq
 (try dsimp only at nf IJ)
 refine hN _ _ ?_
 clear hN N
 have CK:=wc cnt uw hn (aL t bs) (fun b h=>hb b (xh h)) (by have:=ns t bs;omega)
 have hL:=tW (aL t bs)
 have hz:∀x,cN (dL σ2.get) 6 [.int .i64 x,.own o 0 (aL t bs).length]=some [.int .i64 x,.sl ((aL t bs).map ay)]:=fun x=>by
  have:V.fz (dL σ2.get) 6 (.own o 0 (aL t bs).length)=some (.sl ((aL t bs).map ay)):=by
   rw[iw];simp only[dL,fQ,Option.map_some,if_true]
   rw[if_pos (by omega),List.drop_zero,hrt,qx fun b=>zF _ 4 b];rfl
  simp only[ai,aj,aH,this,Option.map_some]
 (try((repeat(revert hN;revert N;apply Pn.out));refine wk @Nat.zero_add ?_;(repeat(refine Pn.mk ?_;intro N hN))))
 refine .inl ⟨_,aq.x CK (hz _),?_⟩
 refine hN _ _ ?_
 clear hN N
 generalize eB (aL t bs)=L at *
 have s4:((fy cnt L).map AM).length=(leads cnt L).length:=by simp[fy]
 have SJ:=jP cnt L
 have jI:(0:Int)<=(cnt:Int):=by omega
 have qd:(cnt:Int)<=((16777216:Nat):Int):=by omega
 have gL:List.replicate cnt [AV.int .i64 0]=dC (cP cnt L 0 0) cnt:=by rw[xn,oW]
 (try((repeat(revert hN;revert N;apply Pn.out));refine wk (tw @jI (tw @qd (tw @Int.le_refl (tw @s4 @gL)))) ?_;(repeat(refine Pn.mk ?_;intro N hN))))
 refine aW (fun n env st=>∃i:Nat,n=((leads cnt L).length)-i/\i<=((leads cnt L).length)/\env 27=.int .i64 (i:Int)/\st.get ⟨221002001,σ2.next+1⟩=some ⟨true,1,dC (cP cnt L i 0) cnt⟩/\(σ2.next+1<st.next)) ((leads cnt L).length) ⟨0,by omega,by omega,sl (tw @gL @s4),sl (tw @gL @s4),(by(try dsimp only);omega)⟩ ?_
 rintro n_c env_c st_c ⟨i,rfl,cle,c27,cg0,cI0⟩ cfr
 have c1:=cfr 1 (by kernel_rfl);have c8:=cfr 8 (by kernel_rfl);have c9:=cfr 9 (by kernel_rfl);have xI:=cfr 25 (by kernel_rfl);have xJ:=cfr 26 (by kernel_rfl)
 simp only[go_sem, ↓reduceIte,Nat.reduceEqDiff,Nat.reduceAdd,Nat.reduceSub,Nat.reduceLeDiff,reduceCtorEq,gL,s4]at c1 c8 c9 xI xJ
 clear cfr
 by_cases hi:(i:Int)<((leads cnt L).length:Int)
 ·have ig:∀{e:Env} {gg:Rows} {nx:Nat},(e 27=.int .i64 (IntKind.i64.wrap ((i:Int)+1)))->(gg ⟨221002001,σ2.next+1⟩=some ⟨true,1,dC (cP cnt L (i+1) 0) cnt⟩)->(σ2.next+1<nx)->∃m0,m0<((leads cnt L).length)-i/\∃i:Nat,m0=((leads cnt L).length)-i/\i<=((leads cnt L).length)/\e 27=.int .i64 (i:Int)/\gg ⟨221002001,σ2.next+1⟩=some ⟨true,1,dC (cP cnt L i 0) cnt⟩/\(σ2.next+1<nx):=fun x1 x2 x3=>⟨_,by omega,i+1,rfl,by omega,(by rw[x1,az (by omega)]),x2,x3⟩
  have fh:i<(leads cnt L).length:=by omega
  have j7:((fy cnt L).map AM)[i]? =some (AM (members cnt L (leads cnt L)[i])):=by simp[fy,fh]
  have uQ:(leads cnt L).getD i 0=(leads cnt L)[i]:=by simp[List.getD_eq_getElem?_getD,fh]
  have lh:∀m,cP cnt L i m=fun x=>if bV L x<i then bV L x else if x∈(members cnt L (leads cnt L)[i]).take m then i else 0:=fun m=>by unfold cP;rw[uQ]
  have rL:=fun x (hx:x<cnt)=>te hL (n:=cnt) (k:=x) (i:=i) hx fh
  have mm:(members cnt L (leads cnt L)[i]).Nodup:=List.nodup_range.filter _
  have Ol:∀x∈members cnt L (leads cnt L)[i],x<cnt:=fun x hx=>(lN.1 hx).1
  have hMc:(members cnt L (leads cnt L)[i]).length<=cnt:=by
   have:=List.length_filter_le (fun k=>L k==(leads cnt L)[i]) (List.range cnt)
   simpa[members]using this
  generalize members cnt L (leads cnt L)[i]=M at *
  have CI:(M.map eN).length=M.length:=by simp
  (try((repeat(revert hN;revert N;apply Pn.out));refine wk (tw @c27 (tw @cg0 (tw @c1 (tw @c8 (tw @c9 (tw @xI (tw @xJ (tw @hi (tw @s4 (tw @j7 (tw @AM.eq_1 @CI))))))))))) ?_;(repeat(refine Pn.mk ?_;intro N hN))))
  refine aW (fun n env st=>∃m:Nat,n=(M.length)-m/\m<=(M.length)/\env 34=.int .i64 (m:Int)/\st.get ⟨221002001,σ2.next+1⟩=some ⟨true,1,dC (cP cnt L i m) cnt⟩/\(σ2.next+1<st.next)) (M.length) ⟨0,by omega,by omega,sl (tw @c27 (tw @cg0 (tw @c1 (tw @c8 (tw @c9 (tw @xI (tw @xJ @CI))))))),sl (tw @c27 (tw @cg0 (tw @c1 (tw @c8 (tw @c9 (tw @xI (tw @xJ @CI))))))),(by(try dsimp only);omega)⟩ ?_
  rintro n_d env_d st_d ⟨m,rfl,dle,d34,dg0,dI0⟩ dfr
  have d1:=dfr 1 (by kernel_rfl);have d8:=dfr 8 (by kernel_rfl);have d9:=dfr 9 (by kernel_rfl);have d10:=dfr 10 (by kernel_rfl);have d25:=dfr 25 (by kernel_rfl);have d26:=dfr 26 (by kernel_rfl);have d27:=dfr 27 (by kernel_rfl);have d32:=dfr 32 (by kernel_rfl);have d33:=dfr 33 (by kernel_rfl)
  simp only[go_sem, ↓reduceIte,Nat.reduceEqDiff,Nat.reduceAdd,Nat.reduceSub,Nat.reduceLeDiff,reduceCtorEq,c27,cg0,c1,c8,c9,xI,xJ,CI]at d1 d8 d9 d10 d25 d26 d27 d32 d33
  clear dfr
  have tl:=gm (cP cnt L i m) cnt
  by_cases hm:(m:Int)<(M.length:Int)
  ·have tZ:∀{e:Env} {gg:Rows} {nx:Nat},(e 34=.int .i64 (IntKind.i64.wrap ((m:Int)+1)))->(gg ⟨221002001,σ2.next+1⟩=some ⟨true,1,dC (cP cnt L i (m+1)) cnt⟩)->(σ2.next+1<nx)->∃m0,m0<(M.length)-m/\∃m:Nat,m0=(M.length)-m/\m<=(M.length)/\e 34=.int .i64 (m:Int)/\gg ⟨221002001,σ2.next+1⟩=some ⟨true,1,dC (cP cnt L i m) cnt⟩/\(σ2.next+1<nx):=fun x1 x2 x3=>⟨_,by omega,m+1,rfl,by omega,(by rw[x1,az (by omega)]),x2,x3⟩
   have zQ:m<M.length:=by omega
   have wh:(M.map eN)[m]? =some (eN M[m]):=by simp[zQ]
   have wu:=Ol _ (List.getElem_mem zQ)
   have CQ:(M[m]:Int)<(cnt:Int):=by omega
   have CP:=fo (f:=cP cnt L i m) wu
   have eJ:(dC (cP cnt L i m) cnt).set M[m] (eN i)=dC (cP cnt L i (m+1)) cnt:=pO wu (by
    have h1:=(rL _ wu).1 (List.getElem_mem zQ)
    rw[lh]
    simp only[]
    rw[if_neg (by omega),if_pos (by rw[List.take_succ_eq_append_getElem zQ];exact List.mem_append_right _ (List.mem_singleton.2 rfl))]) fun x hx gW=>by
    rw[lh,lh]
    simp only[]
    rw[List.take_succ_eq_append_getElem zQ]
    simp only[List.mem_append,List.mem_singleton,gW,or_false]
   rw[eN]at eJ CP
   generalize M[m]=xm at *
   (try((repeat(revert hN;revert N;apply Pn.out));refine wk (tw @d34 (tw @dg0 (tw @d1 (tw @d8 (tw @d9 (tw @d10 (tw @d25 (tw @d26 (tw @d27 (tw @d32 (tw @d33 (tw @hm (tw @hi (tw @wh (tw @CI (tw @CQ (tw @CP (tw @tl (tw @eJ @eN.eq_1))))))))))))))))))) ?_;(repeat(refine Pn.mk ?_;intro N hN))))
   refine tZ ?_ ?_ (by(try dsimp only);omega)
   all_goals simp only[go_sem, ↓reduceIte,Nat.reduceEqDiff,Nat.reduceAdd,Nat.reduceSub,Nat.reduceLeDiff,reduceCtorEq,d34,dg0,d1,d8,d9,d10,d25,d26,d27,d32,d33,eJ]
  ·have lF:m=M.length:=by omega
   subst lF
   have qF:dC (cP cnt L i M.length) cnt=dC (cP cnt L (i+1) 0) cnt:=gY fun x hx=>by
    rw[lh,List.take_length]
    simp only[cP,List.take_zero,List.not_mem_nil,if_false]
    have h1:=rL x hx
    by_cases h2:bV L x<i
    ·rw[if_pos h2,if_pos (by omega)]
    ·rw[if_neg h2]
     by_cases h3:x∈M
     ·rw[if_pos h3,if_pos (by have:=h1.1 h3;omega),h1.1 h3]
     ·rw[if_neg h3,if_neg fun h4=>h3 (h1.2 (by omega))]
   (try((repeat(revert hN;revert N;apply Pn.out));refine wk (tw @d34 (tw @dg0 (tw @d1 (tw @d8 (tw @d9 (tw @d10 (tw @d25 (tw @d26 (tw @d27 (tw @d32 (tw @d33 (tw @hm (tw @hi (tw @s4 @CI)))))))))))))) ?_;(repeat(refine Pn.mk ?_;intro N hN))))
   refine ig ?_ ?_ (by(try dsimp only);omega)
   all_goals simp only[go_sem, ↓reduceIte,Nat.reduceEqDiff,Nat.reduceAdd,Nat.reduceSub,Nat.reduceLeDiff,reduceCtorEq,c27,cg0,c1,c8,c9,xI,xJ,d34,dg0,d1,d8,d9,d10,d25,d26,d27,d32,d33,qF]
 have lE:i=(leads cnt L).length:=by omega
 subst lE
 have rM:dC (cP cnt L (leads cnt L).length 0) cnt=dC (bV L) cnt:=gY fun x hx=>by rw[cP,if_pos (kc hL hx)]
 rw[rM]at cg0
 have tl:=gm (bV L) cnt
 have Sv:(bs.map ay).length=bs.length:=by simp
 (try((repeat(revert hN;revert N;apply Pn.out));refine wk (tw @c27 (tw @cg0 (tw @c1 (tw @c8 (tw @c9 (tw @xI (tw @xJ (tw @hi (tw @s4 @Sv))))))))) ?_;(repeat(refine Pn.mk ?_;intro N hN))))
 have Sy:σ2.next+1<st_c.next:=cI0
 refine aW (fun n env st=>∃j:Nat,n=(bs.length)-j/\j<=(bs.length)/\env 46=.int .i64 (j:Int)/\st.get ⟨221002001,σ2.next+1⟩=some ⟨true,1,dC (bV L) cnt⟩/\(st_c.next<=st.next/\((dt L (bs.take j)=[]/\env 14=.cm)∨∃p:Id,env 14=.own p 0 (dt L (bs.take j)).length/\st.get p=some ⟨true,3,(dt L (bs.take j)).map ay⟩/\st_c.next<=p.ck/\p.ck<st.next/\0<(dt L (bs.take j)).length))) (bs.length) ⟨0,by omega,by omega,sl (tw @c27 (tw @cg0 (tw @c1 (tw @c8 (tw @c9 (tw @xI (tw @xJ @Sv))))))),sl (tw @c27 (tw @cg0 (tw @c1 (tw @c8 (tw @c9 (tw @xI (tw @xJ @Sv))))))),⟨by(try dsimp only);omega,.inl ⟨rfl,by(simp only[go_sem, ↓reduceIte,Nat.reduceEqDiff,Nat.reduceAdd,Nat.reduceSub,Nat.reduceLeDiff,reduceCtorEq])⟩⟩⟩ ?_
 rintro n_f env_f st_f ⟨j,rfl,fle,f46,fg0,fI0⟩ ffr
 have f1:=ffr 1 (by kernel_rfl);have f8:=ffr 8 (by kernel_rfl);have f9:=ffr 9 (by kernel_rfl);have f44:=ffr 44 (by kernel_rfl);have f45:=ffr 45 (by kernel_rfl)
 simp only[go_sem, ↓reduceIte,Nat.reduceEqDiff,Nat.reduceAdd,Nat.reduceSub,Nat.reduceLeDiff,reduceCtorEq,c27,cg0,c1,c8,c9,xI,xJ,Sv]at f1 f8 f9 f44 f45
 clear ffr
 obtain⟨PQ,fO⟩:=fI0
 have I5:=dp (i:=⟨221002001,σ2.next+1⟩) (n:=st_f.next) (by(try dsimp only);omega)
 have CO:=(nr L (bs.take j)).1
 rw[List.length_take]at CO
 by_cases hj:(j:Int)<(bs.length:Int)
 ·have rZ:∀{e:Env} {gg:Rows} {nx:Nat},(e 46=.int .i64 (IntKind.i64.wrap ((j:Int)+1)))->(gg ⟨221002001,σ2.next+1⟩=some ⟨true,1,dC (bV L) cnt⟩)->(st_c.next<=nx/\((dt L (bs.take (j+1))=[]/\e 14=.cm)∨∃p:Id,e 14=.own p 0 (dt L (bs.take (j+1))).length/\gg p=some ⟨true,3,(dt L (bs.take (j+1))).map ay⟩/\st_c.next<=p.ck/\p.ck<nx/\0<(dt L (bs.take (j+1))).length))->∃m0,m0<(bs.length)-j/\∃j:Nat,m0=(bs.length)-j/\j<=(bs.length)/\e 46=.int .i64 (j:Int)/\gg ⟨221002001,σ2.next+1⟩=some ⟨true,1,dC (bV L) cnt⟩/\(st_c.next<=nx/\((dt L (bs.take j)=[]/\e 14=.cm)∨∃p:Id,e 14=.own p 0 (dt L (bs.take j)).length/\gg p=some ⟨true,3,(dt L (bs.take j)).map ay⟩/\st_c.next<=p.ck/\p.ck<nx/\0<(dt L (bs.take j)).length)):=fun x1 x2 x3=>⟨_,by omega,j+1,rfl,by omega,(by rw[x1,az (by omega)]),x2,x3⟩
  have jB:j<bs.length:=by omega
  have Hv:(bs.map ay)[j]? =some (ay bs[j]):=by simp[jB]
  have MO:=hb _ (List.getElem_mem jB)
  have hs:=Am L (bs.take j) bs[j]
  rw[<-List.take_succ_eq_append_getElem jB]at hs
  generalize bs[j]=b at *
  have hA:=fo (f:=bV L) MO.1
  have hB:=fo (f:=bV L) MO.2
  have gK:(b.a:Int)<(cnt:Int):=by omega
  have fP:(b.b:Int)<(cnt:Int):=by omega
  rw[eN]at hA hB
  have e1:(dt L (bs.take j)).length+1<=16777216:=by omega
  have lF:((dt L (bs.take j)).map ay).length=(dt L (bs.take j)).length:=by simp
  by_cases he:bV L b.a=bV L b.b
  ·rw[if_pos he,List.append_nil]at hs
   have uP:decide ((bV L b.a:Int)=(bV L b.b:Int))=true:=decide_eq_true (by rw[he])
   (try((repeat(revert hN;revert N;apply Pn.out));refine wk (tw @f46 (tw @fg0 (tw @f1 (tw @f8 (tw @f9 (tw @f44 (tw @f45 (tw @hj (tw @Hv (tw @hA (tw @hB (tw @gK (tw @fP (tw @tl (tw @uP (tw @I5 (tw @ay.eq_1 (tw @Bool.not_true @Bool.not_false)))))))))))))))))) ?_;(repeat(refine Pn.mk ?_;intro N hN))))
   refine rZ ?_ ?_ (by(try dsimp only);exact⟨by omega,by
    rw[hs]
    rcases fO with⟨h1,h2⟩|⟨p,h1,h2,h3,h4,h5⟩
    ·exact .inl ⟨h1,sd @h2⟩
    ·have AQ:=dp h4
     exact .inr ⟨p,sd @h1,sd (tw @h2 @AQ),h3,by omega,h5⟩⟩)
   all_goals simp only[go_sem, ↓reduceIte,Nat.reduceEqDiff,Nat.reduceAdd,Nat.reduceSub,Nat.reduceLeDiff,reduceCtorEq,f46,fg0,f1,f8,f9,f44,f45,I5]
  ·rw[if_neg he]at hs
   have uP:decide ((bV L b.a:Int)=(bV L b.b:Int))=false:=decide_eq_false fun h=>he (by omega)
   rcases fO with⟨h1,f14⟩|⟨p,f14,fg,Oq,IT,hp3⟩
   ·rw[h1]at hs
    (try((repeat(revert hN;revert N;apply Pn.out));refine wk (tw @f46 (tw @fg0 (tw @f1 (tw @f8 (tw @f9 (tw @f44 (tw @f45 (tw @f14 (tw @hj (tw @Hv (tw @hA (tw @hB (tw @gK (tw @fP (tw @tl (tw @uP (tw @I5 (tw @ay.eq_1 (tw @Bool.not_true @Bool.not_false))))))))))))))))))) ?_;(repeat(refine Pn.mk ?_;intro N hN))))
    refine rZ ?_ ?_ (by(try dsimp only);exact⟨by omega,.inr ⟨⟨221017015,st_f.next+1+1+1⟩,by rw[hs];simp only[go_sem, ↓reduceIte,Nat.reduceEqDiff,Nat.reduceAdd,Nat.reduceSub,Nat.reduceLeDiff,reduceCtorEq,List.nil_append,List.length_cons,List.length_nil],by rw[hs];simp only[go_sem, ↓reduceIte,Nat.reduceEqDiff,Nat.reduceAdd,Nat.reduceSub,Nat.reduceLeDiff,reduceCtorEq,ay,List.nil_append,List.map_cons,List.map_nil],by(try dsimp only);omega,by(try dsimp only);omega,by rw[hs];simp⟩⟩)
    all_goals simp only[go_sem, ↓reduceIte,Nat.reduceEqDiff,Nat.reduceAdd,Nat.reduceSub,Nat.reduceLeDiff,reduceCtorEq,f46,fg0,f1,f8,f9,f44,f45,I5]
   ·have x1:=cr (a:=⟨221002001,σ2.next+1⟩) (b:=p) (by(try dsimp only);omega)
    have AQ:=dp IT
    (try((repeat(revert hN;revert N;apply Pn.out));refine wk (tw @f46 (tw @fg0 (tw @f1 (tw @f8 (tw @f9 (tw @f44 (tw @f45 (tw @f14 (tw @fg (tw @hj (tw @Hv (tw @hA (tw @hB (tw @gK (tw @fP (tw @tl (tw @uP (tw @x1 (tw @AQ (tw @I5 (tw @e1 (tw @lF (tw @ay.eq_1 (tw @Bool.not_true @Bool.not_false)))))))))))))))))))))))) ?_;(repeat(refine Pn.mk ?_;intro N hN))))
    refine rZ ?_ ?_ (by(try dsimp only);exact⟨by omega,.inr ⟨⟨221017015,st_f.next+1+1+1⟩,by rw[hs,List.length_append];simp only[go_sem, ↓reduceIte,Nat.reduceEqDiff,Nat.reduceAdd,Nat.reduceSub,Nat.reduceLeDiff,reduceCtorEq,List.length_cons,List.length_nil],by rw[hs,List.map_append,List.map_cons,List.map_nil];simp only[go_sem, ↓reduceIte,Nat.reduceEqDiff,Nat.reduceAdd,Nat.reduceSub,Nat.reduceLeDiff,reduceCtorEq,ay],by(try dsimp only);omega,by(try dsimp only);omega,by rw[hs];simp⟩⟩)
    all_goals simp only[go_sem, ↓reduceIte,Nat.reduceEqDiff,Nat.reduceAdd,Nat.reduceSub,Nat.reduceLeDiff,reduceCtorEq,f46,fg0,f1,f8,f9,f44,f45,x1,I5]
 ·have gZ:j=bs.length:=by omega
  subst gZ
  rw[List.take_length]at fO
  rcases fO with⟨h1,f14⟩|⟨p,f14,fg,Oq,IT,hp3⟩
  ·(try((repeat(revert hN;revert N;apply Pn.out));refine wk (tw @f46 (tw @fg0 (tw @f1 (tw @f8 (tw @f9 (tw @f44 (tw @f45 (tw @f14 (tw @hj @s4))))))))) ?_;(repeat(refine Pn.mk ?_;intro N hN))))
   refine jw (.inl rfl) (r1:=.int .i64 ((leads cnt L).length:Int)) (sd @Nat.zero_add) (by simp only[go_sem, ↓reduceIte,Nat.reduceEqDiff,Nat.reduceAdd,Nat.reduceSub,Nat.reduceLeDiff,reduceCtorEq];rfl) ?_
   simp only[eR,bz,cD,eK,j6,h1,Mm,Option.map_some]
  ·(try((repeat(revert hN;revert N;apply Pn.out));refine wk (tw @f46 (tw @fg0 (tw @f1 (tw @f8 (tw @f9 (tw @f44 (tw @f45 (tw @f14 (tw @hj @s4))))))))) ?_;(repeat(refine Pn.mk ?_;intro N hN))))
   refine jw (.inl rfl) (r1:=.int .i64 ((leads cnt L).length:Int)) (sd @Nat.zero_add) (by simp only[go_sem, ↓reduceIte,Nat.reduceEqDiff,Nat.reduceAdd,Nat.reduceSub,Nat.reduceLeDiff,reduceCtorEq];rfl) ?_
   have h1:gx st_f.get 5 (.own p 0 (dt L bs).length)=some (.sl ((dt L bs).map ay)):=fc (sz:=3) fg rfl fun b=>uI _ 3 b
   simp only[eR,bz,cD,eK,h1,Aq hp3,Option.map_some]
theorem xL (cnt:Nat) (uw:1<=cnt) (hn:cnt<=1048576) (t:Int):aq Tryz.prog 221 [.int .i64 cnt,.cm,.int .i64 t] (.gJ [.int .i64 cnt,.cm]):=by
 refine aq.body eC rfl fun hl n0=>?_
 clear hl
 have h1:aq Tryz.prog 242 [.cm] .cm:=by
  refine aq.body eC rfl fun hl n0=>?_
  clear hl
  (try((repeat(revert hN;revert N;apply Pn.out));refine wk @Nat.zero_add ?_;(repeat(refine Pn.mk ?_;intro N hN))))
  exact w7 (.inl rfl) (r0:=.cm) (sd @Nat.zero_add) (j6 _ _)
 have h2:aq Tryz.prog 241 [.cm,.fn 243 [.di [.int .i64 t]]] .cm:=by
  have Gm:=(yI [] t (by simp)).cut mixed (.cm (.same _ .nil))
  refine aq.body eC rfl fun hl n0=>?_
  clear hl
  (try((repeat(revert hN;revert N;apply Pn.out));refine wk @Nat.zero_add ?_;(repeat(refine Pn.mk ?_;intro N hN))))
  refine .inl ⟨_,aq.x Gm (by simp only[ai,aj,aX,cU,aU,List.all_cons,List.all_nil,AV.cell,Bool.and_true,if_true,Option.map_some]),?_⟩
  refine hN _ _ ?_
  clear hN N
  have hd:decide (kh (fun b:PB=>decide (b.s<t)) []= -1)=true:=rfl
  (try((repeat(revert hN;revert N;apply Pn.out));refine wk @hd ?_;(repeat(refine Pn.mk ?_;intro N hN))))
  exact w7 (.inl rfl) (r0:=.cm) (sd @Nat.zero_add) (j6 _ _)
 have CK:=(wc cnt uw hn [] (fun b h=>by cases h) (by simp)).cut mixed (.same _ (.cm .nil))
 (repeat(first|((repeat(revert hN;revert N;apply Pn.out));refine wk @Nat.zero_add ?_;(repeat(refine Pn.mk ?_;intro N hN)))|((try apply Or.inl);refine⟨_,aq.x (h1) (sd @Nat.zero_add),?_⟩;refine hN _ _ ?_;clear hN N)))
 refine .inl ⟨_,aq.x h2 ?_,?_⟩
 ·have:V.fz (dL (bq (fun _=>none) ⟨221000000,n0⟩ ⟨true,1,[[.int .i64 t]]⟩)) 5 (.ptr ⟨221000000,n0⟩ 0 0)=some (.di [.int .i64 t]):=v8 (sz:=1) (rows:=[[.int .i64 t]]) (by simp[dL,bq]) rfl (by simp only[List.drop_zero,ai,aj,aH,Option.map_some])
  simp only[ai,aj,aX,cU,this,List.all_cons,List.all_nil,AV.cell,Bool.and_true,if_true,Option.map_some]
 refine hN _ _ ?_
 clear hN N
 have fP:eB ([]:List PB)=id:=rfl
 rw[fP]at CK
 have hL:jG id:=fP▸tW ([]:List PB)
 have PT:(leads cnt id).length=cnt:=by rw[leads,List.filter_eq_self.2 (fun a _=>by simp)];simp
 generalize (id:Nat->Nat)=L at *
 have s4:((fy cnt L).map AM).length=(leads cnt L).length:=by simp[fy]
 have SJ:=jP cnt L
 have jI:(0:Int)<=(cnt:Int):=by omega
 have qd:(cnt:Int)<=((16777216:Nat):Int):=by omega
 have gL:List.replicate cnt [AV.int .i64 0]=dC (cP cnt L 0 0) cnt:=by rw[xn,oW]
 (repeat(first|((repeat(revert hN;revert N;apply Pn.out));refine wk (tw @jI (tw @qd (tw @Int.le_refl (tw @s4 @gL)))) ?_;(repeat(refine Pn.mk ?_;intro N hN)))|((try apply Or.inl);refine⟨_,aq.x (CK) (sd (tw @jI (tw @qd (tw @Int.le_refl (tw @s4 @gL))))),?_⟩;refine hN _ _ ?_;clear hN N)))
 refine aW (fun n env st=>∃i:Nat,n=((leads cnt L).length)-i/\i<=((leads cnt L).length)/\env 27=.int .i64 (i:Int)/\st.get ⟨221002001,n0+1+1⟩=some ⟨true,1,dC (cP cnt L i 0) cnt⟩/\(n0+1+1<st.next)) ((leads cnt L).length) ⟨0,by omega,by omega,sl (tw @gL @s4),sl (tw @gL @s4),(by(try dsimp only);omega)⟩ ?_
 rintro n_c env_c st_c ⟨i,rfl,cle,c27,cg0,cI0⟩ cfr
 have c1:=cfr 1 (by kernel_rfl);have c8:=cfr 8 (by kernel_rfl);have c9:=cfr 9 (by kernel_rfl);have xI:=cfr 25 (by kernel_rfl);have xJ:=cfr 26 (by kernel_rfl)
 simp only[go_sem, ↓reduceIte,Nat.reduceEqDiff,Nat.reduceAdd,Nat.reduceSub,Nat.reduceLeDiff,reduceCtorEq,gL,s4]at c1 c8 c9 xI xJ
 clear cfr
 by_cases hi:(i:Int)<((leads cnt L).length:Int)
 ·have ig:∀{e:Env} {gg:Rows} {nx:Nat},(e 27=.int .i64 (IntKind.i64.wrap ((i:Int)+1)))->(gg ⟨221002001,n0+1+1⟩=some ⟨true,1,dC (cP cnt L (i+1) 0) cnt⟩)->(n0+1+1<nx)->∃m0,m0<((leads cnt L).length)-i/\∃i:Nat,m0=((leads cnt L).length)-i/\i<=((leads cnt L).length)/\e 27=.int .i64 (i:Int)/\gg ⟨221002001,n0+1+1⟩=some ⟨true,1,dC (cP cnt L i 0) cnt⟩/\(n0+1+1<nx):=fun x1 x2 x3=>⟨_,by omega,i+1,rfl,by omega,(by rw[x1,az (by omega)]),x2,x3⟩
  have fh:i<(leads cnt L).length:=by omega
  have j7:((fy cnt L).map AM)[i]? =some (AM (members cnt L (leads cnt L)[i])):=by simp[fy,fh]
  have uQ:(leads cnt L).getD i 0=(leads cnt L)[i]:=by simp[List.getD_eq_getElem?_getD,fh]
  have lh:∀m,cP cnt L i m=fun x=>if bV L x<i then bV L x else if x∈(members cnt L (leads cnt L)[i]).take m then i else 0:=fun m=>by unfold cP;rw[uQ]
  have rL:=fun x (hx:x<cnt)=>te hL (n:=cnt) (k:=x) (i:=i) hx fh
  have mm:(members cnt L (leads cnt L)[i]).Nodup:=List.nodup_range.filter _
  have Ol:∀x∈members cnt L (leads cnt L)[i],x<cnt:=fun x hx=>(lN.1 hx).1
  have hMc:(members cnt L (leads cnt L)[i]).length<=cnt:=by
   have:=List.length_filter_le (fun k=>L k==(leads cnt L)[i]) (List.range cnt)
   simpa[members]using this
  generalize members cnt L (leads cnt L)[i]=M at *
  have CI:(M.map eN).length=M.length:=by simp
  (try((repeat(revert hN;revert N;apply Pn.out));refine wk (tw @c27 (tw @cg0 (tw @c1 (tw @c8 (tw @c9 (tw @xI (tw @xJ (tw @hi (tw @s4 (tw @j7 (tw @AM.eq_1 @CI))))))))))) ?_;(repeat(refine Pn.mk ?_;intro N hN))))
  refine aW (fun n env st=>∃m:Nat,n=(M.length)-m/\m<=(M.length)/\env 34=.int .i64 (m:Int)/\st.get ⟨221002001,n0+1+1⟩=some ⟨true,1,dC (cP cnt L i m) cnt⟩/\(n0+1+1<st.next)) (M.length) ⟨0,by omega,by omega,sl (tw @c27 (tw @cg0 (tw @c1 (tw @c8 (tw @c9 (tw @xI (tw @xJ @CI))))))),sl (tw @c27 (tw @cg0 (tw @c1 (tw @c8 (tw @c9 (tw @xI (tw @xJ @CI))))))),(by(try dsimp only);omega)⟩ ?_
  rintro n_d env_d st_d ⟨m,rfl,dle,d34,dg0,dI0⟩ dfr
  have d1:=dfr 1 (by kernel_rfl);have d8:=dfr 8 (by kernel_rfl);have d9:=dfr 9 (by kernel_rfl);have d10:=dfr 10 (by kernel_rfl);have d25:=dfr 25 (by kernel_rfl);have d26:=dfr 26 (by kernel_rfl);have d27:=dfr 27 (by kernel_rfl);have d32:=dfr 32 (by kernel_rfl);have d33:=dfr 33 (by kernel_rfl)
  simp only[go_sem, ↓reduceIte,Nat.reduceEqDiff,Nat.reduceAdd,Nat.reduceSub,Nat.reduceLeDiff,reduceCtorEq,c27,cg0,c1,c8,c9,xI,xJ,CI]at d1 d8 d9 d10 d25 d26 d27 d32 d33
  clear dfr
  have tl:=gm (cP cnt L i m) cnt
  by_cases hm:(m:Int)<(M.length:Int)
  ·have tZ:∀{e:Env} {gg:Rows} {nx:Nat},(e 34=.int .i64 (IntKind.i64.wrap ((m:Int)+1)))->(gg ⟨221002001,n0+1+1⟩=some ⟨true,1,dC (cP cnt L i (m+1)) cnt⟩)->(n0+1+1<nx)->∃m0,m0<(M.length)-m/\∃m:Nat,m0=(M.length)-m/\m<=(M.length)/\e 34=.int .i64 (m:Int)/\gg ⟨221002001,n0+1+1⟩=some ⟨true,1,dC (cP cnt L i m) cnt⟩/\(n0+1+1<nx):=fun x1 x2 x3=>⟨_,by omega,m+1,rfl,by omega,(by rw[x1,az (by omega)]),x2,x3⟩
   have zQ:m<M.length:=by omega
   have wh:(M.map eN)[m]? =some (eN M[m]):=by simp[zQ]
   have wu:=Ol _ (List.getElem_mem zQ)
   have CQ:(M[m]:Int)<(cnt:Int):=by omega
   have CP:=fo (f:=cP cnt L i m) wu
   have eJ:(dC (cP cnt L i m) cnt).set M[m] (eN i)=dC (cP cnt L i (m+1)) cnt:=pO wu (by
    have h1:=(rL _ wu).1 (List.getElem_mem zQ)
    rw[lh]
    simp only[]
    rw[if_neg (by omega),if_pos (by rw[List.take_succ_eq_append_getElem zQ];exact List.mem_append_right _ (List.mem_singleton.2 rfl))]) fun x hx gW=>by
    rw[lh,lh]
    simp only[]
    rw[List.take_succ_eq_append_getElem zQ]
    simp only[List.mem_append,List.mem_singleton,gW,or_false]
   rw[eN]at eJ CP
   generalize M[m]=xm at *
   (try((repeat(revert hN;revert N;apply Pn.out));refine wk (tw @d34 (tw @dg0 (tw @d1 (tw @d8 (tw @d9 (tw @d10 (tw @d25 (tw @d26 (tw @d27 (tw @d32 (tw @d33 (tw @hm (tw @hi (tw @wh (tw @CI (tw @CQ (tw @CP (tw @tl (tw @eJ @eN.eq_1))))))))))))))))))) ?_;(repeat(refine Pn.mk ?_;intro N hN))))
   refine tZ ?_ ?_ (by(try dsimp only);omega)
   all_goals simp only[go_sem, ↓reduceIte,Nat.reduceEqDiff,Nat.reduceAdd,Nat.reduceSub,Nat.reduceLeDiff,reduceCtorEq,d34,dg0,d1,d8,d9,d10,d25,d26,d27,d32,d33,eJ]
  ·have lF:m=M.length:=by omega
   subst lF
   have qF:dC (cP cnt L i M.length) cnt=dC (cP cnt L (i+1) 0) cnt:=gY fun x hx=>by
    rw[lh,List.take_length]
    simp only[cP,List.take_zero,List.not_mem_nil,if_false]
    have h1:=rL x hx
    by_cases h2:bV L x<i
    ·rw[if_pos h2,if_pos (by omega)]
    ·rw[if_neg h2]
     by_cases h3:x∈M
     ·rw[if_pos h3,if_pos (by have:=h1.1 h3;omega),h1.1 h3]
     ·rw[if_neg h3,if_neg fun h4=>h3 (h1.2 (by omega))]
   (try((repeat(revert hN;revert N;apply Pn.out));refine wk (tw @d34 (tw @dg0 (tw @d1 (tw @d8 (tw @d9 (tw @d10 (tw @d25 (tw @d26 (tw @d27 (tw @d32 (tw @d33 (tw @hm (tw @hi (tw @s4 @CI)))))))))))))) ?_;(repeat(refine Pn.mk ?_;intro N hN))))
   refine ig ?_ ?_ (by(try dsimp only);omega)
   all_goals simp only[go_sem, ↓reduceIte,Nat.reduceEqDiff,Nat.reduceAdd,Nat.reduceSub,Nat.reduceLeDiff,reduceCtorEq,c27,cg0,c1,c8,c9,xI,xJ,d34,dg0,d1,d8,d9,d10,d25,d26,d27,d32,d33,qF]
 have lE:i=(leads cnt L).length:=by omega
 subst lE
 have rM:dC (cP cnt L (leads cnt L).length 0) cnt=dC (bV L) cnt:=gY fun x hx=>by rw[cP,if_pos (kc hL hx)]
 rw[rM]at cg0
 have tl:=gm (bV L) cnt
 (try((repeat(revert hN;revert N;apply Pn.out));refine wk (tw @c27 (tw @cg0 (tw @c1 (tw @c8 (tw @c9 (tw @xI (tw @xJ (tw @hi @s4)))))))) ?_;(repeat(refine Pn.mk ?_;intro N hN))))
 refine aW (fun n env st=>∃j:Nat,n=(0)-j/\j<=(0)/\env 46=.int .i64 (j:Int)/\env 14=.cm) (0) ⟨0,by omega,by omega,sl (tw @c27 (tw @cg0 (tw @c1 (tw @c8 (tw @c9 (tw @xI @xJ)))))),sl (tw @c27 (tw @cg0 (tw @c1 (tw @c8 (tw @c9 (tw @xI @xJ))))))⟩ ?_
 rintro n_f env_f st_f ⟨j,rfl,fle,f46,f14⟩ ffr
 have f8:=ffr 8 (by kernel_rfl);have f44:=ffr 44 (by kernel_rfl);have f45:=ffr 45 (by kernel_rfl)
 simp only[go_sem, ↓reduceIte,Nat.reduceEqDiff,Nat.reduceAdd,Nat.reduceSub,Nat.reduceLeDiff,reduceCtorEq,c27,cg0,c1,c8,c9,xI,xJ]at f8 f44 f45
 clear ffr
 have hj:¬(j:Int)<((0:Nat):Int):=by omega
 (try((repeat(revert hN;revert N;apply Pn.out));refine wk (tw @f46 (tw @f14 (tw @f8 (tw @f44 (tw @f45 (tw @hj @s4)))))) ?_;(repeat(refine Pn.mk ?_;intro N hN))))
 refine jw (.inl rfl) (r1:=.int .i64 ((leads cnt L).length:Int)) (r2:=.cm) (sd @Nat.zero_add) (sd @Nat.zero_add) ?_
 simp only[eR,bz,cD,eK,j6,PT,Option.map_some]
theorem zC (cnt:Nat) (uw:1<=cnt) (hn:cnt<=1048576) (bs:List PB) (hb:∀b∈bs,b.a<cnt/\b.b<cnt) (qc:bs.length<=1048576) (t:Int):aq Tryz.prog 221 [.int .i64 cnt,Ap bs,.int .i64 t] (.gJ [.int .i64 (leads cnt (eB (aL t bs))).length,Ap (dt (eB (aL t bs)) bs)]):=by
 cases bs with
 |nil=>
  have h:=xL cnt uw hn t
  have PT:(leads cnt (eB (aL t []))).length=cnt:=by
   show(leads cnt id).length=cnt
   rw[leads,List.filter_eq_self.2 (fun a _=>by simp)];simp
  rw[PT]
  exact h
 |cons b r=>
  rw[Aq (by simp)]
  exact xM cnt uw hn (b::r) hb (by simp) qc t
end Go.Proofs.YtgoelphibofcmaaGreat.V

namespace Go.Proofs.YtgoelphibofcmaaGreat.V
open Go.RowKit
attribute [local irreducible] dG wpOps gy Call
attribute [local go_sem] aM fF eP ga fW cQ upd cz K.av cR AV.cells AV.cell rowOf rowsOf part ld rowAt bq cu dD ee ik bJ dh ev fU eX dr ej dd dc dQ dR bQ bf cW bP cY cX eh ek ei cV cj de ef bK aO da cG ij bw cK bU aY dn aZ dE AV.undef bD bG dV ec dM dK cH eu ew cF ep eo cZ db List.getD_cons_zero List.getD_cons_succ List.getD_nil List.all_cons List.all_nil Bool.and_true Bool.true_and Bool.and_self Bool.not_true Bool.not_false Option.map_some Option.map_none Option.bind_some Option.bind_none List.length_cons List.length_nil List.take_succ_cons List.take_zero List.take_nil List.drop_succ_cons List.drop_zero List.drop_nil List.head?_cons List.map_cons List.map_nil List.getElem?_cons_zero List.getElem?_cons_succ List.cons_append List.nil_append List.append_nil List.length_map List.set_cons_zero List.set_cons_succ Nat.reduceMul eq_self Int.toNat_natCast Int.natCast_nonneg and_self true_and and_true decide_true decide_false Bool.false_eq_true Nat.zero_add Nat.add_zero List.contains_cons List.contains_nil Bool.or_false Bool.false_or beq_self_eq_true Nat.reduceBEq ne_eq not_true_eq_false not_false_eq_true Id.mk.injEq false_and and_false Nat.reduceLT Int.reduceLE Int.reduceLT Int.reduceToNat Int.reduceNeg Int.reduceAdd Nat.le_refl List.length_append beq_true beq_false Bool.not_eq_eq_eq_not or_false false_or dL ai aj aH bl bB cw aX bd aU bh cU bH
attribute [local go_sem] FG
section
attribute [-go_sem] dD
theorem L0 (n:Nat) (hn:n<=1048576):aq Tryz.prog 277 [.int .u64 1,.int .u64 n] (.gJ [.int .u64 0,.int .u64 n]):=by
 refine aq.body eC rfl fun hl n0=>?_
 clear hl
 have b1:(BitVec.ofInt 64 (n:Int)&&& BitVec.ofInt 64 4294967295).toNat=n:=by
  rw[BitVec.toNat_and]
  have e1:(BitVec.ofInt 64 (n:Int)).toNat=n:=by rw[BitVec.toNat_ofInt];omega
  have e2:(BitVec.ofInt 64 4294967295).toNat=2 ^ 32-1:=by decide
  rw[e1,e2]
  exact Nat.and_two_pow_sub_one_of_lt_two_pow (by omega)
 have zn:IntKind.u64.wrap (n:Int)=n:=by rw[IntKind.wrap_u64];omega
 have i1:dD .and .u64 (n:Int) 4294967295=some (.int .u64 n):=by
  show some (AV.int .u64 (IntKind.u64.wrap (((BitVec.ofInt 64 (n:Int)&&& BitVec.ofInt 64 4294967295).toNat:Nat):Int)))= _
  rw[b1,zn]
 have i2:dD .and .u64 1 4294967295=some (.int .u64 1):=rfl
 have i3:dD .and .u64 0 4294967295=some (.int .u64 0):=rfl
 have i4:dD .mul .u64 1 (n:Int)=some (.int .u64 n):=by simp only[dD,Int.one_mul,zn]
 have i5:dD .mul .u64 0 (n:Int)=some (.int .u64 0):=by simp only[dD,Int.zero_mul];rfl
 have i6:dD .mul .u64 1 0=some (.int .u64 0):=rfl
 have i7:dD .mul .u64 0 0=some (.int .u64 0):=rfl
 have i8:dD .add .u64 0 0=some (.int .u64 0):=rfl
 have a3:Int.fdiv 1 (2 ^ min 32 64)=0:=by decide
 have a4:Int.fdiv (n:Int) (2 ^ min 32 64)=0:=by
  rw[Int.fdiv_eq_ediv_of_nonneg _ (by decide)]
  have h32:(2:Int) ^ min 32 64=4294967296:=by decide
  exact Int.ediv_eq_zero_of_lt (by omega) (by omega)
 have z1:Int.fdiv 0 (2 ^ min 32 64)=0:=by decide
 (try((repeat(revert hN;revert N;apply Pn.out));refine wk (tw @i1 (tw @i2 (tw @i3 (tw @i4 (tw @i5 (tw @i6 (tw @i7 (tw @i8 (tw @a3 (tw @a4 @z1)))))))))) ?_;(repeat(refine Pn.mk ?_;intro N hN))))
 refine jw (.inl rfl) (r1:=.int .u64 0) (r2:=.int .u64 n) (sd @Nat.zero_add) (sd @Nat.zero_add) ?_
 simp only[eR,bz,cD,eK,Option.map_some]
end
theorem RB (n:Nat) (hn:n<=1048576):aq Tryz.prog 275 [.int .u64 1,.int .u64 n] (.gJ [.int .u64 0,.int .u64 n]):=by
 refine aq.body eC rfl fun hl n0=>?_
 clear hl
 have h:=L0 n hn
 (repeat(first|((repeat(revert hN;revert N;apply Pn.out));refine wk @Nat.zero_add ?_;(repeat(refine Pn.mk ?_;intro N hN)))|((try apply Or.inl);refine⟨_,aq.x (h) (sd @Nat.zero_add),?_⟩;refine hN _ _ ?_;clear hN N)))
 refine jw (.inl rfl) (r1:=.int .u64 0) (r2:=.int .u64 n) (sd @Nat.zero_add) (sd @Nat.zero_add) ?_
 simp only[eR,bz,cD,eK,Option.map_some]
theorem JQ (cnt:Nat) (uw:1<=cnt) (hn:cnt<=1048576) (v:Int) (x:Id) (σ:ar) (hx:σ.get x=some ⟨true,1,[[.int .i64 v]]⟩) (OI:x.ck<σ.next):
  Call Tryz.prog 271 [.own x 0 1,.int .i64 cnt] σ fun r σ'=>∃o:Id,r=.own o 0 cnt/\σ'.get o=some ⟨true,1,List.replicate cnt [.int .i64 v]⟩/\σ.next<=o.ck/\o.ck<σ'.next/\∀i:Id,i.ck<σ.next->σ'.get i=σ.get i:=by
 refine eU eC rfl fun hl=>?_
 clear hl
 have h:=RB cnt hn
 have w1:IntKind.u64.wrap (cnt:Int)=cnt:=by rw[IntKind.wrap_u64];omega
 have w2:IntKind.i64.wrap (cnt:Int)=cnt:=Kt (by omega)
 have w0:IntKind.u64.wrap ((1:Nat):Int)=1:=by decide
 have g1:¬(cnt:Int)<0:=by omega
 have g2:¬(9223372036854775807:Int)<cnt:=by omega
 have jI:(0:Int)<=(cnt:Int):=by omega
 have qd:(cnt:Int)<=((16777216:Nat):Int):=by omega
 have P4:=dp OI
 have sG:(List.replicate cnt [AV.int .i64 0]).length=cnt:=List.length_replicate
 have m1:min 1 cnt=1:=by omega
 (repeat(first|((repeat(revert hN;revert N;apply Pn.out));refine wk (tw @w0 (tw @w1 (tw @w2 (tw @g1 (tw @g2 (tw @jI (tw @qd (tw @Int.le_refl (tw @Nat.le_refl (tw @hx (tw @P4 (tw @sG @m1)))))))))))) ?_;(repeat(refine Pn.mk ?_;intro N hN)))|((try apply Or.inl);refine⟨_,aq.x (h) (sd (tw @w0 (tw @w1 (tw @w2 (tw @g1 (tw @g2 (tw @jI (tw @qd (tw @Int.le_refl (tw @Nat.le_refl (tw @hx (tw @P4 (tw @sG @m1))))))))))))),?_⟩;refine hN _ _ ?_;clear hN N)))
 refine aW (fun m env st=>∃k:Nat,m=cnt-k/\1<=k/\k<=cnt/\env 8=.int .i64 (k:Int)/\st.get ⟨271006002,σ.next+1+1+1+1⟩=some ⟨true,1,List.replicate k [.int .i64 v]++List.replicate (cnt-k) [.int .i64 0]⟩/\σ.next+4<st.next/\∀i:Id,i.ck<σ.next->st.get i=σ.get i) (cnt-1) ⟨1,rfl,Nat.le_refl _,uw,by(simp only[go_sem, ↓reduceIte,Nat.reduceEqDiff,Nat.reduceAdd,Nat.reduceSub,Nat.reduceLeDiff,reduceCtorEq,m1])<;>rfl,?_,by(try dsimp only);omega,fun i hi=>?_⟩ ?_
 ·simp only[go_sem, ↓reduceIte,Nat.reduceEqDiff,Nat.reduceAdd,Nat.reduceSub,Nat.reduceLeDiff,reduceCtorEq]
  rw[List.drop_replicate];rfl
 ·have DF:=dp hi
  simp only[go_sem, ↓reduceIte,Nat.reduceEqDiff,Nat.reduceAdd,Nat.reduceSub,Nat.reduceLeDiff,reduceCtorEq,DF]
 rintro m env_b st_b ⟨k,rfl,xC,wi,b8,bg,bn,fY⟩ bkp
 have b7:=bkp 7 (by kernel_rfl)
 simp only[go_sem, ↓reduceIte,Nat.reduceEqDiff,Nat.reduceAdd,Nat.reduceSub,Nat.reduceLeDiff,reduceCtorEq]at b7
 clear bkp
 have Ra:(List.replicate k [AV.int .i64 v]++List.replicate (cnt-k) [AV.int .i64 0]).length=cnt:=by simp;omega
 by_cases hk:(k:Int)<(cnt:Int)
 ·have fA:k<cnt:=by omega
  have xz:(k:Int)<=(cnt:Int):=by omega
  have hw:IntKind.i64.wrap ((k:Int)+((min k (cnt-k):Nat):Int))=((k+min k (cnt-k):Nat):Int):=by rw[bF (by omega)];omega
  have nV:List.take k (List.replicate k [AV.int .i64 v]++List.replicate (cnt-k) [AV.int .i64 0])=List.replicate k [AV.int .i64 v]:=List.take_left' (by simp)
  have dI:(List.replicate k [AV.int .i64 v]).all (fun c=>c.length==1&&c.all AV.cell)=true:=List.all_eq_true.2 fun c hc=>by rw[List.eq_of_mem_replicate hc];rfl
  have hlr:(List.replicate k [AV.int .i64 v]).length=k:=List.length_replicate
  have OC:k+(cnt-k)=cnt:=by omega
  have wo:List.replicate k [AV.int .i64 v]++List.take (min k (cnt-k)) (List.replicate k [AV.int .i64 v])++List.drop (k+min k (cnt-k)) (List.replicate k [AV.int .i64 v]++List.replicate (cnt-k) [AV.int .i64 0])=List.replicate (k+min k (cnt-k)) [AV.int .i64 v]++List.replicate (cnt-(k+min k (cnt-k))) [AV.int .i64 0]:=by
   rw[List.take_replicate,List.drop_append,List.drop_of_length_le (by simp),List.nil_append,hlr,List.drop_replicate,List.replicate_append_replicate]
   congr 2
   ·omega
   ·omega
  (try((repeat(revert hN;revert N;apply Pn.out));refine wk (tw @b7 (tw @b8 (tw @bg (tw @Ra (tw @hk (tw @xz (tw @wi (tw @hw (tw @fA (tw @Nat.sub_zero (tw @nV (tw @dI (tw @hlr (tw @OC (tw @Nat.le_refl @wo))))))))))))))) ?_;(repeat(refine Pn.mk ?_;intro N hN))))
  refine⟨_,?_,k+min k (cnt-k),rfl,by omega,by omega,sd @hw,sd @wo,by(try dsimp only);omega,fun i hi=>?_⟩
  ·omega
  ·have DF:=dp hi
   have:=fY i hi
   simp only[go_sem, ↓reduceIte,Nat.reduceEqDiff,Nat.reduceAdd,Nat.reduceSub,Nat.reduceLeDiff,reduceCtorEq,DF,this]
 ·have l7:k=cnt:=by omega
  subst l7
  (try((repeat(revert hN;revert N;apply Pn.out));refine wk (tw @b7 (tw @b8 (tw @bg (tw @Ra @hk)))) ?_;(repeat(refine Pn.mk ?_;intro N hN))))
  refine fx (.inl rfl) (vs:=[.own ⟨271006002,σ.next+1+1+1+1⟩ 0 k]) (sd @Nat.zero_add) ⟨⟨271006002,σ.next+1+1+1+1⟩,rfl,by simp only[go_sem, ↓reduceIte,Nat.reduceEqDiff,Nat.reduceAdd,Nat.reduceSub,Nat.reduceLeDiff,reduceCtorEq,bg];simp,by(try dsimp only);omega,by(try dsimp only);omega,fun i hi=>fY i hi⟩
end Go.Proofs.YtgoelphibofcmaaGreat.V

namespace Go.Proofs.YtgoelphibofcmaaGreat.V
open Go.RowKit
attribute [local irreducible] dG wpOps gy Call
attribute [local go_sem] aM fF eP ga fW cQ upd cz K.av cR AV.cells AV.cell rowOf rowsOf part ld rowAt bq cu dD ee ik bJ dh ev fU eX dr ej dd dc dQ dR bQ bf cW bP cY cX eh ek ei cV cj de ef bK aO da cG ij bw cK bU aY dn aZ dE AV.undef bD bG dV ec dM dK cH eu ew cF ep eo cZ db List.getD_cons_zero List.getD_cons_succ List.getD_nil List.all_cons List.all_nil Bool.and_true Bool.true_and Bool.and_self Bool.not_true Bool.not_false Option.map_some Option.map_none Option.bind_some Option.bind_none List.length_cons List.length_nil List.take_succ_cons List.take_zero List.take_nil List.drop_succ_cons List.drop_zero List.drop_nil List.head?_cons List.map_cons List.map_nil List.getElem?_cons_zero List.getElem?_cons_succ List.cons_append List.nil_append List.append_nil List.length_map List.set_cons_zero List.set_cons_succ Nat.reduceMul eq_self Int.toNat_natCast Int.natCast_nonneg and_self true_and and_true decide_true decide_false Bool.false_eq_true Nat.zero_add Nat.add_zero List.contains_cons List.contains_nil Bool.or_false Bool.false_or beq_self_eq_true Nat.reduceBEq ne_eq not_true_eq_false not_false_eq_true Id.mk.injEq false_and and_false Nat.reduceLT Int.reduceLE Int.reduceLT Int.reduceToNat Int.reduceNeg Int.reduceAdd Nat.le_refl List.length_append beq_true beq_false Bool.not_eq_eq_eq_not or_false false_or dL ai aj aH bl bB cw aX bd aU bh cU bH
def k7 (R:Nat->Id) (n k:Nat):List (List AV):=(List.range k).map fun i=>[.own (R i) 0 n]
theorem ke (R:Nat->Id) (n k:Nat):(k7 R n k).length=k:=by simp[k7]
theorem si {R:Nat->Id} {n k i:Nat} (h:i<k):(k7 R n k)[i]? =some [.own (R i) 0 n]:=by simp[k7,h]
theorem tu (R:Nat->Id) (n k:Nat):k7 R n (k+1)=k7 R n k++[[.own (R k) 0 n]]:=by simp[k7,List.range_succ]
def xZ (c:Nat->Nat->Int) (n:Nat):List (List AV):=(List.range n).map fun i=>[.sl (dW (c i) n)]
theorem Cw {c:Nat->Nat->Int} {n i:Nat} (h:i<n):(xZ c n)[i]? =some [.sl (dW (c i) n)]:=by simp[xZ,h]
theorem xl (c:Nat->Nat->Int) (n:Nat):(xZ c n).length=n:=by simp[xZ]
structure FO (X o1 o2:Id) (R1 R2:Nat->Id) (n nb:Nat):Prop where
 sx:X.site=245001001
 s1:o1.site=245004008
 s2:o2.site=245005008
 S8:∀i,i<n->(R1 i).site=245004006
 Nb:∀i,i<n->(R2 i).site=245005006
 i1:∀i j,i<n->j<n->R1 i=R1 j->i=j
 i2:∀i j,i<n->j<n->R2 i=R2 j->i=j
 vx:X.ck<nb
 v1:o1.ck<nb
 v2:o2.ck<nb
 Ta:∀i,i<n->(R1 i).ck<nb
 Qe:∀i,i<n->(R2 i).ck<nb
structure nI (g:Rows) (X o1 o2:Id) (R1 R2:Nat->Id) (n:Nat) (c f:Nat->Nat->Int):Prop where
 x:g X=some ⟨true,2,[[.own o1 0 n,.own o2 0 n]]⟩
 t1:g o1=some ⟨true,1,k7 R1 n n⟩
 t2:g o2=some ⟨true,1,k7 R2 n n⟩
 r1:∀i,i<n->g (R1 i)=some ⟨true,1,dW (c i) n⟩
 r2:∀i,i<n->g (R2 i)=some ⟨true,1,dW (f i) n⟩
theorem nI.frame {g g':Rows} {X o1 o2:Id} {R1 R2:Nat->Id} {n nb:Nat} {c f:Nat->Nat->Int} (I:FO X o1 o2 R1 R2 n nb) (h:nI g X o1 o2 R1 R2 n c f) (hf:∀i:Id,i.ck<nb->g' i=g i):nI g' X o1 o2 R1 R2 n c f:=
 ⟨(hf _ I.vx).trans h.x,(hf _ I.v1).trans h.t1,(hf _ I.v2).trans h.t2,fun i hi=>(hf _ (I.Ta i hi)).trans (h.r1 i hi),fun i hi=>(hf _ (I.Qe i hi)).trans (h.r2 i hi)⟩
theorem oE {f:Nat->Nat->Int} {a b:Nat} {d:Int} {n:Nat} (hb:b<n):(dW (f a) n).set b (br (f a b+d))=dW (bump f a b d a) n:=k8 hb (by simp[bump]) fun i _ hi=>by simp[bump,hi]
theorem j0 {f:Nat->Nat->Int} {a b i:Nat} {d:Int} (h:i≠a):bump f a b d i=f i:=by funext v;simp[bump,h]
theorem nI.add {g g':Rows} {X o1 o2:Id} {R1 R2:Nat->Id} {n nb:Nat} {c f:Nat->Nat->Int} (I:FO X o1 o2 R1 R2 n nb) (h:nI g X o1 o2 R1 R2 n c f) (b:PB) (ha:b.a<n) (hb:b.b<n) (hA:b.a≠b.b->g' (R1 b.a)=some ⟨true,1,dW (bump c b.a b.b b.s b.a) n⟩) (hB:g' (R1 b.b)=some ⟨true,1,dW (nL c b b.b) n⟩) (hf:∀i:Id,i.ck<nb->(i=R1 b.a)=False->(i=R1 b.b)=False->g' i=g i):nI g' X o1 o2 R1 R2 n (nL c b) f:=by
 have ne:∀{i:Id} {s:Nat},i.site=s->(s==245004006)=false->∀a,a<n->(i=R1 a)=False:=fun {i s} hi hs a ha=>by
  simp only[eq_iff_iff,iff_false]
  rintro rfl
  rw[I.S8 a ha]at hi
  subst hi
  simp at hs
 refine⟨(hf _ I.vx (ne I.sx (by decide) _ ha) (ne I.sx (by decide) _ hb)).trans h.x,(hf _ I.v1 (ne I.s1 (by decide) _ ha) (ne I.s1 (by decide) _ hb)).trans h.t1,(hf _ I.v2 (ne I.s2 (by decide) _ ha) (ne I.s2 (by decide) _ hb)).trans h.t2,fun i hi=>?_,fun i hi=>(hf _ (I.Qe i hi) (ne (I.Nb i hi) (by decide) _ ha) (ne (I.Nb i hi) (by decide) _ hb)).trans (h.r2 i hi)⟩
 by_cases KH:i=b.b
 ·subst KH;exact hB
 ·by_cases Og:i=b.a
  ·subst Og
   rw[hA KH,nL,j0 KH]
  ·rw[nL,j0 KH,j0 Og,hf _ (I.Ta i hi) (by simp only[eq_iff_iff,iff_false];exact fun he=>Og (I.i1 i _ hi ha he)) (by simp only[eq_iff_iff,iff_false];exact fun he=>KH (I.i1 i _ hi hb he))]
   exact h.r1 i hi
def lz (n:Nat) (c f:Nat->Nat->Int):List AV:=[.sl (xZ c n),.sl (xZ f n)]
theorem FF {g:Rows} {R:Nat->Id} {n k:Nat} {c:Nat->Nat->Int} (h:∀i,i<k->g (R i)=some ⟨true,1,dW (c i) n⟩) (m:Nat):ea (dL g) (m+3) (k7 R n k)=some ((List.range k).map fun i=>[.sl (dW (c i) n)]):=by
 induction k with
 |zero=>rw[show k7 R n 0=[]from rfl,ea];rfl
 |succ k ih=>
  have e1:V.fz (dL g) (m+3) (.own (R k) 0 n)=some (.sl (dW (c k) n)):=by
   rw[iw];simp only[dL,h k (by omega),Option.map_some,if_true]
   rw[if_pos (by rw[dB];omega),List.drop_zero,List.take_of_length_le (by rw[dB];omega),Aw];rfl
  have app:∀(xs ys:List (List AV)) (Td R8:List (List AV)),ea (dL g) (m+3) xs=some Td->ea (dL g) (m+3) ys=some R8->ea (dL g) (m+3) (xs++ys)=some (Td++R8):=by
   intro xs
   induction xs with
   |nil=>intro ys Td R8 h1 h2;rw[ea]at h1;cases h1;exact h2
   |cons a xs ih2=>
    intro ys Td R8 h1 h2
    rw[ea]at h1
    rw[List.cons_append,ea]
    cases ha:cN (dL g) (m+3) a with
    |none=>simp[ha]at h1
    |some a'=>
     cases hb:ea (dL g) (m+3) xs with
     |none=>simp[ha,hb]at h1
     |some b'=>
      simp[ha,hb]at h1
      subst h1
      rw[ih2 ys b' R8 hb h2];rfl
  rw[tu,List.range_succ,List.map_append]
  refine app _ _ _ _ (ih fun i hi=>h i (by omega)) ?_
  rw[ea,ai,aj,e1,ea];rfl
theorem nI.fz {g:Rows} {X o1 o2:Id} {R1 R2:Nat->Id} {n:Nat} {c f:Nat->Nat->Int} (h:nI g X o1 o2 R1 R2 n c f):V.fz (dL g) 6 (.ptr X 0 0)=some (.di (lz n c f)):=by
 refine v8 (sz:=2) (rows:=[[.own o1 0 n,.own o2 0 n]]) (by simp[dL,h.x]) rfl ?_
 have e1:V.fz (dL g) 5 (.own o1 0 n)=some (.sl (xZ c n)):=by
  rw[iw];simp only[dL,h.t1,Option.map_some,if_true]
  rw[if_pos (by rw[ke];omega),List.drop_zero,List.take_of_length_le (by rw[ke];omega)]
  rw[show ea _ 4 _=some (xZ c n)from FF h.r1 1];rfl
 have e2:V.fz (dL g) 5 (.own o2 0 n)=some (.sl (xZ f n)):=by
  rw[iw];simp only[dL,h.t2,Option.map_some,if_true]
  rw[if_pos (by rw[ke];omega),List.drop_zero,List.take_of_length_le (by rw[ke];omega)]
  rw[show ea _ 4 _=some (xZ f n)from FF h.r2 1];rfl
 simp only[List.drop_zero,ai,aj,e1,e2,lz,Option.map_some]
theorem NO (n:Nat) (c f:Nat->Nat->Int) (u v:Nat) (hu:u<n) (hv:v<n):aq Tryz.prog 272 [.di (lz n c f),.int .i64 u,.int .i64 v] (.bool (decide (f u v<c u v))):=by
 refine aq.body eC rfl fun hl n0=>?_
 clear hl
 have h1:=Cw (c:=c) hu
 have h2:=Cw (c:=f) hu
 have h3:=dO (f:=c u) hv
 have h4:=dO (f:=f u) hv
 have hui:(u:Int)<(n:Int):=by omega
 have DF:(v:Int)<(n:Int):=by omega
 have l1:=xl c n
 have l2:=xl f n
 have l3:=dB (c u) n
 have l4:=dB (f u) n
 rw[br]at h3 h4
 (try((repeat(revert hN;revert N;apply Pn.out));refine wk (tw @lz.eq_1 (tw @h1 (tw @h2 (tw @h3 (tw @h4 (tw @hui (tw @DF (tw @l1 (tw @l2 (tw @l3 @l4)))))))))) ?_;(repeat(refine Pn.mk ?_;intro N hN))))
 exact aT (b:=decide (f u v<c u v)) (.inl rfl) (sd @Nat.zero_add) rfl
end Go.Proofs.YtgoelphibofcmaaGreat.V
