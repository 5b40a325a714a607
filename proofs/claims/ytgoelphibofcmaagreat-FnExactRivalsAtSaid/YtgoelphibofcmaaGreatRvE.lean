/- The options, by the reference. -/
import Derived.Test.YtgoelphibofcmaaGreatRvB
import Derived.Test.YtgoelphibofcmaaGreatRvD
import Derived.Test.YtgoelphibofcmaaGreatRvC
import Derived.Maps.RangeRun
import Derived.RangeFuncCalls
import Derived.OrdersIn
import Derived.RangeFuncNested
import Derived.RangeFuncBound
import Derived.RangeFuncLeaves
import Derived.Shelf.Abstract
import Derived.Shelf.RegionOpen
import Derived.WalkKit
import Derived.OwnWalkIn
import Derived.TacticsInMore
import Derived.LoopNIn
import Derived.LoopIn
import Derived.BigQuiet
import Derived.RangeFuncBox
import Derived.RangeFuncWrites
import Derived.Maps.AppendAt
import Derived.Maps.OwnIn
import Derived.Shelf.SlSortCmp.WholeK
import Derived.Shelf.SlSortCmp.NoneTotal
import Derived.Ground.SlsfProg
import Derived.Test.YtgoelphibofcmaaGreatProg
set_option linter.unusedVariables false
set_option linter.unusedSimpArgs false
set_option maxRecDepth 100000
set_option maxHeartbeats 16000000
namespace Go.Proofs.YtgoelphibofcmaaGreat.V
open Go.RowKit
attribute [local irreducible] ek wpOps gq Call
attribute [local go_sem] aH fF eK ga fZ da upd ck K.av cH AV.cells AV.cell rowOf rowsOf part ld rowAt bF cj dy dW gU bG cX eh fY eU dn ea cV cU dH dI bJ aW cK bI cN cL dY eb dZ cJ bL cW dX bH aL cQ cC gT bj cF bK aT du bf dz AV.undef bw bE dM dU dE dJ cE ef ep cw ee ec cP cR List.getD_cons_zero List.getD_cons_succ List.getD_nil List.all_cons List.all_nil Bool.and_true Bool.true_and Bool.and_self Bool.not_true Bool.not_false Option.map_some Option.map_none Option.bind_some Option.bind_none List.length_cons List.length_nil List.take_succ_cons List.take_zero List.take_nil List.drop_succ_cons List.drop_zero List.drop_nil List.head?_cons List.map_cons List.map_nil List.getElem?_cons_zero List.getElem?_cons_succ List.cons_append List.nil_append List.append_nil List.length_map List.set_cons_zero List.set_cons_succ Nat.reduceMul eq_self Int.toNat_natCast Int.natCast_nonneg and_self true_and and_true decide_true decide_false Bool.false_eq_true Nat.zero_add Nat.add_zero List.contains_cons List.contains_nil Bool.or_false Bool.false_or beq_self_eq_true Nat.reduceBEq ne_eq not_true_eq_false not_false_eq_true Id.mk.injEq false_and and_false Nat.reduceLT Int.reduceLE Int.reduceLT Int.reduceToNat Int.reduceNeg Int.reduceAdd Nat.le_refl List.length_append beq_true beq_false Bool.not_eq_eq_eq_not or_false false_or dF ai ao aG aZ bt bW aP aY aQ aV cI bD
def oL (s:au) (F:ad->Int) (p:ad) (d:Nat):Int:=if F (bd p d)<0 then 0 else de (dh s (F (bd p d))) (kF d)
def oM (s:au) (F:ad->Int) (p:ad) (k:Nat):List Int:=(List.range k).map (oL s F p)
theorem Bo (s:au) (F:ad->Int) (p:ad) (k:Nat):(oM s F p k).length=k:=by simp[oM]
theorem Gv (s:au) (F:ad->Int) (p:ad) (k:Nat):oM s F p (k+1)=oM s F p k++[oL s F p k]:=by simp[oM,List.range_succ]
theorem IJ {s:au} {F:ad->Int} {p:ad} {k d:Nat} (h:d<k):((oM s F p k).map aw)[d]? =some [.int .i64 (oL s F p d)]:=by simp[oM,h,aw]
theorem Gm {s:au} (hF:je s) {F:ad->Int} (hT:∀q,0<=F q->eQ s (F q)=true) {p:ad} {t:Int} (ht:eQ s t=true) {d:Nat} (hd:d<4):
  dq s F p t (d+1)=if de (dh s t) d=oL s F p d then dq s F p t d+p7 s (oL s F p d)else dq s F p t d:=by
 rw[dq]
 unfold oL
 by_cases h0:F (bd p d)<0
 ·rw[if_neg (by omega),if_pos h0]
  have:p7 s 0=0:=if_pos rfl
  rw[this,Int.add_zero]
  split<;>rfl
 ·rw[if_pos (by omega),if_neg h0]
  unfold gS
  split
  ·rename_i e;rw[e]
  ·rw[Int.add_zero]
theorem Lj {s:au} (hF:je s) {F:ad->Int} (hT:∀q,0<=F q->eQ s (F q)=true) (p:ad) {d:Nat} (hd:d<4):0<=oL s F p d/\oL s F p d<=s.ax.length:=by
 unfold oL
 split
 ·exact⟨Int.le_refl _,by omega⟩
 ·rename_i h0
  obtain⟨_,_,a2⟩:=kb (hT _ (by omega:0<=F (bd p d)))
  exact hF.tK _ a2 _ (w5 (hF.qi _ a2) (qV (jL (by omega))))
noncomputable def zb (s:au) (l:List ae) (T:Int) (p:ad) (t:Int):Bool:=decide (T<=qb s (gR l) p t)
theorem K0 {s:aD} {l:List ae} {p:ad} (h:AH l p) (hA:lp s.aB l) (t:Int):eS s l p t=zb s.aB l s.ay p t:=by
 obtain⟨h1,h2,_⟩:=h
 simp[eS,zb,h1,(H7 hA p).2 h2]
theorem L3 (s:au) (hS:iH s) (l:List ae) (hA:lp s l) (p:ad) (hx:iB p.eI) (hy:iB p.eF) (T:Int):
  aq Tryz.prog 72 [.dm (aa s),.dm [.sl (l.map aj)],.agg (ab p),.int .i64 T] (.sl ((jT (zb s l T) p s.ah.length).map aw)):=by
 refine aq.body eL rfl fun nS n0=>?_
 clear nS
 have hF:=hS.form
 have KN:=hS.yW
 have Um:∀q,0<=gR l q->eQ s (gR l q)=true:=iH.M5 hA
 (try((repeat(revert hN;revert N;apply Pn.out));refine wk @ab.eq_1 ?_;(repeat(refine Pn.mk ?_;intro N hN))))
 refine aM (fun n env st=>∃k:Nat,n=(4)-k/\k<=(4)/\env 10=.int .i64 (k:Int)/\st.get ⟨72000000,n0⟩=some ⟨true,2,[ab p]⟩/\(n0+2<=st.next/\∃o:Id,env 9=.own o 0 k/\st.get o=some ⟨true,1,(oM s (gR l) p k).map aw⟩/\n0<o.bm/\o.bm<st.next)) (4) ⟨0,by omega,by omega,sl @ab.eq_1,sl @ab.eq_1,by(try dsimp only);exact⟨by omega,⟨72001000,n0+1⟩,sl @Nat.zero_add,sl @Nat.zero_add,by(try dsimp only);omega,by(try dsimp only);omega⟩⟩ ?_
 rintro n_a env_a st_a ⟨k,rfl,ale,xt,ag0,kc⟩ di
 have a0:=di 0 (by kernel_rfl);have a1:=di 1 (by kernel_rfl);have a3:=di 3 (by kernel_rfl);have a6:=di 6 (by kernel_rfl)
 simp only[go_sem, ↓reduceIte,Nat.reduceEqDiff,Nat.reduceAdd,Nat.reduceSub,Nat.reduceLeDiff,reduceCtorEq,ab]at a0 a1 a3 a6
 clear di
 obtain⟨an,o,a9,ag,aov,aox⟩:=kc
 have vo:=dx aox
 have vb:=dx (i:=⟨72000000,n0⟩) (n:=st_a.next) (by(try dsimp only);omega)
 have ob:=dt (a:=⟨72000000,n0⟩) (b:=o) (by(try dsimp only);omega)
 by_cases hk:(k:Int)<4
 ·have cz:∀{e:Env} {gg:Rows} {nx:Nat},(e 10=.int .i64 (IntKind.i64.wrap ((k:Int)+1)))->(gg ⟨72000000,n0⟩=some ⟨true,2,[ab p]⟩)->(n0+2<=nx/\∃o:Id,e 9=.own o 0 (k+1)/\gg o=some ⟨true,1,(oM s (gR l) p (k+1)).map aw⟩/\n0<o.bm/\o.bm<nx)->∃m0,m0<(4)-k/\∃k:Nat,m0=(4)-k/\k<=(4)/\e 10=.int .i64 (k:Int)/\gg ⟨72000000,n0⟩=some ⟨true,2,[ab p]⟩/\(n0+2<=nx/\∃o:Id,e 9=.own o 0 k/\gg o=some ⟨true,1,(oM s (gR l) p k).map aw⟩/\n0<o.bm/\o.bm<nx):=fun x1 x2 x3=>⟨_,by omega,k+1,rfl,by omega,(by rw[x1,az (by omega)]),x2,x3⟩
  have hd:iO (k:Int) 0 3=true:=jL (by omega)
  have dL:=s8 p k hd hx hy
  have Bs:=L2 l (bd p k) hA.1.NB (by have:=hA.1.Bd;omega)
  rw[ab]at dL Bs
  have lH:((oM s (gR l) p k).map aw).length=k:=by rw[List.length_map,Bo]
  have rj:k<=16777215:=by omega
  have IX:=Gv s (gR l) p k
  have sH:(oM s (gR l) p (k+1)).map aw=(oM s (gR l) p k).map aw++[[.int .i64 (oL s (gR l) p k)]]:=by rw[IX,List.map_append];rfl
  by_cases h0:gR l (bd p k)<0
  ·have sF:oL s (gR l) p k=0:=if_pos h0
   rw[sF]at sH
   (repeat(first|((repeat(revert hN;revert N;apply Pn.out));refine wk (tw @xt (tw @ag0 (tw @a0 (tw @a1 (tw @a3 (tw @a6 (tw @hk (tw @a9 (tw @ag (tw @vo (tw @vb (tw @ob (tw @lH (tw @rj (tw @h0 @ab.eq_1))))))))))))))) ?_;(repeat(refine Pn.mk ?_;intro N hN)))|((try apply Or.inl);refine⟨_,aq.x (dL) (sd (tw @xt (tw @ag0 (tw @a0 (tw @a1 (tw @a3 (tw @a6 (tw @hk (tw @a9 (tw @ag (tw @vo (tw @vb (tw @ob (tw @lH (tw @rj (tw @h0 @ab.eq_1)))))))))))))))),?_⟩;refine hN _ _ ?_;clear hN N)|((try apply Or.inl);refine⟨_,aq.x (Bs) (sd (tw @xt (tw @ag0 (tw @a0 (tw @a1 (tw @a3 (tw @a6 (tw @hk (tw @a9 (tw @ag (tw @vo (tw @vb (tw @ob (tw @lH (tw @rj (tw @h0 @ab.eq_1)))))))))))))))),?_⟩;refine hN _ _ ?_;clear hN N)))
   refine cz ?_ ?_ (by(try dsimp only);exact⟨by omega,⟨72007002,st_a.next+1+1+1⟩,sl @Nat.zero_add,by rw[sH];simp only[go_sem, ↓reduceIte,Nat.reduceEqDiff,Nat.reduceAdd,Nat.reduceSub,Nat.reduceLeDiff,reduceCtorEq]<;>rfl,by(try dsimp only);omega,by(try dsimp only);omega⟩)
   all_goals simp only[go_sem, ↓reduceIte,Nat.reduceEqDiff,Nat.reduceAdd,Nat.reduceSub,Nat.reduceLeDiff,reduceCtorEq,xt,ag0,a0,a1,a3,a6,vb,ob,ab]
  ·have sF:oL s (gR l) p k=de (dh s (gR l (bd p k))) (kF k):=if_neg h0
   rw[sF]at sH
   obtain⟨b0,b1,b2⟩:=kb (Um _ (by omega:0<=gR l (bd p k)))
   have s2:=lf (hF.qi _ b2) (qV hd)
   have d1:=(eu (qV hd)).1
   have dK:=uY k hd
   (repeat(first|((repeat(revert hN;revert N;apply Pn.out));refine wk (tw @xt (tw @ag0 (tw @a0 (tw @a1 (tw @a3 (tw @a6 (tw @hk (tw @a9 (tw @ag (tw @vo (tw @vb (tw @ob (tw @lH (tw @rj (tw @h0 (tw @b0 (tw @b1 (tw @s2 (tw @d1 (tw @ab.eq_1 (tw @aa.eq_1 @bp.eq_1))))))))))))))))))))) ?_;(repeat(refine Pn.mk ?_;intro N hN)))|((try apply Or.inl);refine⟨_,aq.x (dL) (sd (tw @xt (tw @ag0 (tw @a0 (tw @a1 (tw @a3 (tw @a6 (tw @hk (tw @a9 (tw @ag (tw @vo (tw @vb (tw @ob (tw @lH (tw @rj (tw @h0 (tw @b0 (tw @b1 (tw @s2 (tw @d1 (tw @ab.eq_1 (tw @aa.eq_1 @bp.eq_1)))))))))))))))))))))),?_⟩;refine hN _ _ ?_;clear hN N)|((try apply Or.inl);refine⟨_,aq.x (Bs) (sd (tw @xt (tw @ag0 (tw @a0 (tw @a1 (tw @a3 (tw @a6 (tw @hk (tw @a9 (tw @ag (tw @vo (tw @vb (tw @ob (tw @lH (tw @rj (tw @h0 (tw @b0 (tw @b1 (tw @s2 (tw @d1 (tw @ab.eq_1 (tw @aa.eq_1 @bp.eq_1)))))))))))))))))))))),?_⟩;refine hN _ _ ?_;clear hN N)|((try apply Or.inl);refine⟨_,aq.x (dK) (sd (tw @xt (tw @ag0 (tw @a0 (tw @a1 (tw @a3 (tw @a6 (tw @hk (tw @a9 (tw @ag (tw @vo (tw @vb (tw @ob (tw @lH (tw @rj (tw @h0 (tw @b0 (tw @b1 (tw @s2 (tw @d1 (tw @ab.eq_1 (tw @aa.eq_1 @bp.eq_1)))))))))))))))))))))),?_⟩;refine hN _ _ ?_;clear hN N)))
   refine cz ?_ ?_ (by(try dsimp only);exact⟨by omega,⟨72008014,st_a.next+1+1+1⟩,sl @Nat.zero_add,by rw[sH];simp only[go_sem, ↓reduceIte,Nat.reduceEqDiff,Nat.reduceAdd,Nat.reduceSub,Nat.reduceLeDiff,reduceCtorEq]<;>rfl,by(try dsimp only);omega,by(try dsimp only);omega⟩)
   all_goals simp only[go_sem, ↓reduceIte,Nat.reduceEqDiff,Nat.reduceAdd,Nat.reduceSub,Nat.reduceLeDiff,reduceCtorEq,xt,ag0,a0,a1,a3,a6,vb,ob,ab]
 ·have UM:k=4:=by omega
  subst UM
  (try((repeat(revert hN;revert N;apply Pn.out));refine wk (tw @xt (tw @ag0 (tw @a0 (tw @a1 (tw @a3 (tw @a6 (tw @hk @aa.eq_1))))))) ?_;(repeat(refine Pn.mk ?_;intro N hN))))
  refine aM (fun n env st=>∃i:Nat,n=(s.ah.length)-i/\i<=(s.ah.length)/\env 13=.int .i64 (i:Int)/\(st_a.next<=st.next/\st.get o=some ⟨true,1,(oM s (gR l) p 4).map aw⟩/\∃u:Id,env 12=.own u 0 (jT (zb s l T) p i).length/\st.get u=some ⟨true,1,(jT (zb s l T) p i).map aw⟩/\st_a.next<=u.bm/\u.bm<st.next)) (s.ah.length) ⟨0,by omega,by omega,sl (tw @xt (tw @ag0 (tw @a0 (tw @a1 (tw @a3 (tw @a6 (tw @a9 @aa.eq_1))))))),by(try dsimp only);exact⟨by omega,sd (tw @vo @ag),⟨72009000,st_a.next+1⟩,sl @Nat.zero_add,sl @Nat.zero_add,by(try dsimp only);omega,by(try dsimp only);omega⟩⟩ ?_
  rintro n_b env_b st_b ⟨i,rfl,ble,C4,bI0⟩ e9
  have b0:=e9 0 (by kernel_rfl);have b1:=e9 1 (by kernel_rfl);have b3:=e9 3 (by kernel_rfl);have b9:=e9 9 (by kernel_rfl)
  simp only[go_sem, ↓reduceIte,Nat.reduceEqDiff,Nat.reduceAdd,Nat.reduceSub,Nat.reduceLeDiff,reduceCtorEq,xt,ag0,a0,a1,a3,a6,a9,aa]at b0 b1 b3 b9
  clear e9
  obtain⟨bn,bo,u,QJ,bu,bum,bux⟩:=bI0
  have vob:=dx (i:=o) (n:=st_b.next) (by omega)
  have vub:=dx bux
  have DI:=ph (zb s l T) p i
  have ou:=dt (a:=o) (b:=u) (by omega)
  by_cases hi:(i:Int)<(s.ah.length:Int)
  ·have fJ:∀{e:Env} {gg:Rows} {nx:Nat},(e 13=.int .i64 (IntKind.i64.wrap ((i:Int)+1)))->(st_a.next<=nx/\gg o=some ⟨true,1,(oM s (gR l) p 4).map aw⟩/\∃u:Id,e 12=.own u 0 (jT (zb s l T) p (i+1)).length/\gg u=some ⟨true,1,(jT (zb s l T) p (i+1)).map aw⟩/\st_a.next<=u.bm/\u.bm<nx)->∃m0,m0<(s.ah.length)-i/\∃i:Nat,m0=(s.ah.length)-i/\i<=(s.ah.length)/\e 13=.int .i64 (i:Int)/\(st_a.next<=nx/\gg o=some ⟨true,1,(oM s (gR l) p 4).map aw⟩/\∃u:Id,e 12=.own u 0 (jT (zb s l T) p i).length/\gg u=some ⟨true,1,(jT (zb s l T) p i).map aw⟩/\st_a.next<=u.bm/\u.bm<nx):=fun x1 x2=>⟨_,by omega,i+1,rfl,by omega,(by rw[x1,az (by omega)]),x2⟩
   have fU:i<s.ah.length:=by omega
   have htb:=Cu fU
   obtain⟨t0,t1,t2⟩:=kb htb
   rw[Int.toNat_natCast]at t1
   have Dz:dq s (gR l) p i 0=0:=rfl
   (try((repeat(revert hN;revert N;apply Pn.out));refine wk (tw @C4 (tw @b0 (tw @b1 (tw @b3 (tw @b9 @hi))))) ?_;(repeat(refine Pn.mk ?_;intro N hN))))
   refine aM (fun n env st=>∃j:Nat,n=(4)-j/\j<=(4)/\env 15=.int .i64 (j:Int)/\env 14=.int .i64 (dq s (gR l) p i j)/\(st_b.next<=st.next/\∀x:Id,x.bm<st_b.next->st.get x=st_b.get x)) (4) ⟨0,by omega,by omega,sl (tw @C4 (tw @b0 (tw @b1 (tw @b3 (tw @b9 (tw @a9 (tw @Dz @aa.eq_1))))))),sl (tw @C4 (tw @b0 (tw @b1 (tw @b3 (tw @b9 (tw @a9 (tw @Dz @aa.eq_1))))))),by(try dsimp only);exact⟨by omega,fun x hx=>by
    have h1:=dx hx
    simp only[go_sem, ↓reduceIte,Nat.reduceEqDiff,Nat.reduceAdd,Nat.reduceSub,Nat.reduceLeDiff,reduceCtorEq,h1]⟩⟩ ?_
   rintro n_c env_c st_c ⟨j,rfl,cle,c15,c14,cI0⟩ iL
   have c0:=iL 0 (by kernel_rfl);have c3:=iL 3 (by kernel_rfl);have c9:=iL 9 (by kernel_rfl);have qn:=iL 12 (by kernel_rfl);have Ip:=iL 13 (by kernel_rfl)
   simp only[go_sem, ↓reduceIte,Nat.reduceEqDiff,Nat.reduceAdd,Nat.reduceSub,Nat.reduceLeDiff,reduceCtorEq,C4,b0,b1,b3,b9,a9,Dz,aa]at c0 c3 c9 qn Ip
   clear iL
   obtain⟨cn,iL⟩:=cI0
   have go:=(iL o (by omega)).trans bo
   have gu:=(iL u bux).trans bu
   have Sm:=dx (i:=o) (n:=st_c.next) (by omega)
   have vuc:=dx (i:=u) (n:=st_c.next) (by omega)
   by_cases hj:(j:Int)<4
   ·have gG:∀{e:Env} {gg:Rows} {nx:Nat},(e 15=.int .i64 (IntKind.i64.wrap ((j:Int)+1)))->(e 14=.int .i64 (dq s (gR l) p i (j+1)))->(st_b.next<=nx/\∀x:Id,x.bm<st_b.next->gg x=st_b.get x)->∃m0,m0<(4)-j/\∃j:Nat,m0=(4)-j/\j<=(4)/\e 15=.int .i64 (j:Int)/\e 14=.int .i64 (dq s (gR l) p i j)/\(st_b.next<=nx/\∀x:Id,x.bm<st_b.next->gg x=st_b.get x):=fun x1 x2 x3=>⟨_,by omega,j+1,rfl,by omega,(by rw[x1,az (by omega)]),x2,x3⟩
    have hdj:iO (j:Int) 0 3=true:=jL (by omega)
    have OJ:(j:Int)<((4:Nat):Int):=by omega
    have s1:=lf (hF.qi _ t2) hdj
    rw[Int.toNat_natCast]at s1
    have Rp:=IJ (s:=s) (F:=gR l) (p:=p) (k:=4) (d:=j) (by omega)
    have sG:((oM s (gR l) p 4).map aw).length=4:=by rw[List.length_map,Bo]
    have dL:=Gm hF Um (p:=p) htb (d:=j) (by omega)
    have fx:=jX hS (gR l) p i (j+1)
    have Lq:=jX hS (gR l) p i j
    have ku:=Lj hF Um p (d:=j) (by omega)
    have hss:=qe s (oL s (gR l) p j) ku.1 ku.2
    rw[aa]at hss
    by_cases he:de (dh s i) j=oL s (gR l) p j
    ·have uI:decide (de (dh s i) j=oL s (gR l) p j)=true:=decide_eq_true he
     rw[if_pos he]at dL
     have hw:IntKind.i64.wrap (dq s (gR l) p i j+p7 s (oL s (gR l) p j))=dq s (gR l) p i (j+1):=by rw[<-dL,bx (by omega)]
     (repeat(first|((repeat(revert hN;revert N;apply Pn.out));refine wk (tw @c15 (tw @c14 (tw @c0 (tw @c3 (tw @c9 (tw @qn (tw @Ip (tw @hj (tw @OJ (tw @t1 (tw @s1 (tw @Rp (tw @go (tw @Sm (tw @uI (tw @aa.eq_1 @bp.eq_1)))))))))))))))) ?_;(repeat(refine Pn.mk ?_;intro N hN)))|((try apply Or.inl);refine⟨_,aq.x (hss) (sd (tw @c15 (tw @c14 (tw @c0 (tw @c3 (tw @c9 (tw @qn (tw @Ip (tw @hj (tw @OJ (tw @t1 (tw @s1 (tw @Rp (tw @go (tw @Sm (tw @uI (tw @aa.eq_1 @bp.eq_1))))))))))))))))),?_⟩;refine hN _ _ ?_;clear hN N)))
     refine gG ?_ ?_ (by(try dsimp only);exact⟨by omega,fun x hx=>by exact iL x hx⟩)
     all_goals simp only[go_sem, ↓reduceIte,Nat.reduceEqDiff,Nat.reduceAdd,Nat.reduceSub,Nat.reduceLeDiff,reduceCtorEq,c15,c14,c0,c3,c9,qn,Ip,hw,aa]
    ·have uI:decide (de (dh s i) j=oL s (gR l) p j)=false:=decide_eq_false he
     rw[if_neg he]at dL
     (try((repeat(revert hN;revert N;apply Pn.out));refine wk (tw @c15 (tw @c14 (tw @c0 (tw @c3 (tw @c9 (tw @qn (tw @Ip (tw @hj (tw @OJ (tw @t1 (tw @s1 (tw @Rp (tw @go (tw @Sm (tw @uI (tw @aa.eq_1 @bp.eq_1)))))))))))))))) ?_;(repeat(refine Pn.mk ?_;intro N hN))))
     refine gG ?_ ?_ (by(try dsimp only);exact⟨by omega,fun x hx=>by exact iL x hx⟩)
     all_goals simp only[go_sem, ↓reduceIte,Nat.reduceEqDiff,Nat.reduceAdd,Nat.reduceSub,Nat.reduceLeDiff,reduceCtorEq,c15,c14,c0,c3,c9,qn,Ip,dL,aa]
   ·have hj4:j=4:=by omega
    subst hj4
    have iF:dq s (gR l) p i 4=qb s (gR l) p i:=rfl
    have yv:jT (zb s l T) p (i+1)=if zb s l T p i=true then jT (zb s l T) p i++[(i:Int)]else jT (zb s l T) p i:=rfl
    have nP:zb s l T p i=decide (T<=qb s (gR l) p i):=rfl
    generalize jT (zb s l T) p i=L at yv QJ bu DI gu
    cases hb:zb s l T p i
    ·rw[hb,if_neg (by simp)]at yv
     rw[hb]at nP
     (try((repeat(revert hN;revert N;apply Pn.out));refine wk (tw @c15 (tw @c14 (tw @c0 (tw @c3 (tw @c9 (tw @qn (tw @Ip (tw @hj (tw @iF @nP.symm))))))))) ?_;(repeat(refine Pn.mk ?_;intro N hN))))
     exact fJ (sd (tw @C4 (tw @b0 (tw @b1 (tw @b3 (tw @b9 (tw @c15 (tw @c14 (tw @c0 (tw @c3 (tw @c9 (tw @qn (tw @Ip @aa.eq_1))))))))))))) (by(try dsimp only);exact⟨by omega,go,⟨u,by rw[yv];simp only[go_sem, ↓reduceIte,Nat.reduceEqDiff,Nat.reduceAdd,Nat.reduceSub,Nat.reduceLeDiff,reduceCtorEq,c15,c14,c0,c3,c9,qn,Ip,QJ],by rw[yv];simp only[go_sem, ↓reduceIte,Nat.reduceEqDiff,Nat.reduceAdd,Nat.reduceSub,Nat.reduceLeDiff,reduceCtorEq,gu],by omega,by(try dsimp only);omega⟩⟩)
    ·rw[hb,if_pos rfl]at yv
     rw[hb]at nP
     have lH:(L.map aw).length=L.length:=by simp
     have hL1:L.length<=16777215:=by omega
     have Az:(L++[(i:Int)]).length=L.length+1:=by simp
     have zD:(L++[(i:Int)]).map aw=L.map aw++[[.int .i64 i]]:=by rw[List.map_append];rfl
     (try((repeat(revert hN;revert N;apply Pn.out));refine wk (tw @c15 (tw @c14 (tw @c0 (tw @c3 (tw @c9 (tw @qn (tw @Ip (tw @hj (tw @iF (tw @nP.symm (tw @QJ (tw @gu (tw @vuc (tw @lH (tw @hL1 (tw @Sm @ou)))))))))))))))) ?_;(repeat(refine Pn.mk ?_;intro N hN))))
     exact fJ (sd (tw @C4 (tw @b0 (tw @b1 (tw @b3 (tw @b9 (tw @c15 (tw @c14 (tw @c0 (tw @c3 (tw @c9 (tw @qn (tw @Ip @aa.eq_1))))))))))))) (by(try dsimp only);exact⟨by omega,sd (tw @go (tw @Sm @ou)),⟨⟨72020003,st_c.next+1+1⟩,by rw[yv,Az];simp only[go_sem, ↓reduceIte,Nat.reduceEqDiff,Nat.reduceAdd,Nat.reduceSub,Nat.reduceLeDiff,reduceCtorEq]<;>rfl,by rw[yv,zD];simp only[go_sem, ↓reduceIte,Nat.reduceEqDiff,Nat.reduceAdd,Nat.reduceSub,Nat.reduceLeDiff,reduceCtorEq]<;>rfl,by(try dsimp only);omega,by(try dsimp only);omega⟩⟩)
  ·have nG:i=s.ah.length:=by omega
   subst nG
   (try((repeat(revert hN;revert N;apply Pn.out));refine wk (tw @C4 (tw @b0 (tw @b1 (tw @b3 (tw @b9 (tw @hi @QJ)))))) ?_;(repeat(refine Pn.mk ?_;intro N hN))))
   exact qf (.inl rfl) (vs:=[.own u 0 (jT (zb s l T) p s.ah.length).length]) (sd @QJ) (by
    simp only[fe]
    exact fI (e:=aw) (n:=5) bu rfl fun x=>by simp[aw,bB,cr,eC])
noncomputable def ft (s:aD) (ts:List ae) (q:ad):List Int:=jT (eS s ts) q s.aB.ah.length
def iE (σ:ar) (O:Id) (s:aD) (ts:List ae) (A:ad->Prop) (g:Rows) (n:Nat):Prop:=σ.next<=n/\(∀x:Id,x.bm<σ.next->x≠O->g x=σ.get x)/\∃es:List En,g O=some ⟨true,mP.lT,es.map pg⟩/\uW g n es (ft s ts) A
theorem iE.Kz {σ:ar} {g:Rows} {n:Nat} {c T O:Id} {s s':aD} {ts KQ:List ae} {A:ad->Prop} (h:y5 σ.get σ.next c T O s ts) (hc:c≠O) (hT:T≠O) (k:iE σ O s' KQ A g n):y5 g n c T O s ts:=
 h.frame k.1 (k.2.1 _ h.cv hc) (k.2.1 _ h.tv hT)
theorem iE.frame {a:ar} {O:Id} {s:aD} {ts:List ae} {A:ad->Prop} {g g':Rows} {n n' m:Nat} (h:iE a O s ts A g n) (ha:n<=m) (ho:O.bm<m) (hn:n<=n') (hf:∀x:Id,x.bm<m->g' x=g x):iE a O s ts A g' n':=by
 refine⟨Nat.le_trans h.1 hn,fun x hx hO=>(hf x (Nat.lt_of_lt_of_le hx (Nat.le_trans h.1 ha))).trans (h.2.1 x hx hO),?_⟩
 obtain⟨es,h1,h2⟩:=h.2.2
 exact⟨es,(hf O ho).trans h1,h2.frame hn fun x hx _=>hf x (Nat.lt_of_lt_of_le hx ha)⟩
theorem Eu:¬mP.lT=1:=by decide
theorem iE.put {a:ar} {O:Id} {s:aD} {ts:List ae} {A A':ad->Prop} {g g':Rows} {n n':Nat} {es:List En} (h:iE a O s ts A g n) (hg:g O=some ⟨true,mP.lT,es.map pg⟩) (hw:uW g n es (ft s ts) A) (hn:n<=n') (hf:∀x:Id,x.bm<n->x≠O->g' x=g x) {q:ad} {o:Id} (h0:ft s ts q≠[]) (ho:o.bm<n') (um:g' o=some ⟨true,1,(ft s ts q).map aw⟩) (hO:g' O=some ⟨true,mP.lT,(nk es q (.own o 0 (ft s ts q).length)).map pg⟩) (hA:∀p,A' p->A p∨p=q):iE a O s ts A' g' n':=
 ⟨Nat.le_trans h.1 hn,fun x hx LQ=>(hf x (Nat.lt_of_lt_of_le hx h.1) LQ).trans (h.2.1 x hx LQ),_,hO,((hw.frame hn fun x hx hr=>hf x hx (by
  rintro rfl
  obtain⟨k,r,hr⟩:=hr
  rw[hg]at hr
  injection hr with hr
  injection hr with _ hr _
  exact Eu hr)).put h0 ho um).mono hA⟩
theorem iE.cut {a:ar} {O:Id} {s:aD} {ts:List ae} {A A':ad->Prop} {g g':Rows} {n n':Nat} {es:List En} (h:iE a O s ts A g n) (hg:g O=some ⟨true,mP.lT,es.map pg⟩) (hw:uW g n es (ft s ts) A) (hn:n<=n') (hf:∀x:Id,x.bm<n->x≠O->g' x=g x) {q:ad} (h0:ft s ts q=[]) (hO:g' O=some ⟨true,mP.lT,(rM es q).map pg⟩) (hA:∀p,A' p->A p∨p=q):iE a O s ts A' g' n':=
 ⟨Nat.le_trans h.1 hn,fun x hx LQ=>(hf x (Nat.lt_of_lt_of_le hx h.1) LQ).trans (h.2.1 x hx LQ),_,hO,((hw.frame hn fun x hx hr=>hf x hx (by
  rintro rfl
  obtain⟨k,r,hr⟩:=hr
  rw[hg]at hr
  injection hr with hr
  injection hr with _ hr _
  exact Eu hr)).cut h0).mono hA⟩
theorem iE.ow {a:ar} {O:Id} {s:aD} {ts:List ae} {A:ad->Prop} {g:Rows} {n:Nat} (h:iE a O s ts A g n):lE a O g n:=by
 obtain⟨h1,h2,es,h3,_⟩:=h
 refine⟨h1,h2,_,h3,fun r hr=>?_⟩
 obtain⟨e,_,rfl⟩:=List.mem_map.1 hr
 exact⟨_,_,_,rfl⟩
theorem zK {σ:ar} {c T O:Id} {s:aD} {ts:List ae} (h:y5 σ.get σ.next c T O s ts) (hc:c≠O) (hT:T≠O) (A:ad->Prop) (hO:∃es:List En,σ.get O=some ⟨true,mP.lT,es.map pg⟩/\uW σ.get σ.next es (ft s ts) A) (hS:iH s.aB) (hF:∀q,0<=gR ts q->eQ s.aB (gR ts q)=true) (p:ad) (hx:iB p.eI) (hy:iB p.eF):
  Call Tryz.prog 127 [.ptr c 0 0,.agg (ab p)] σ (fun r σ'=>r=.iC []/\iE σ O s ts (fun q=>A q∨∃k:Nat,k<4/\q=bd p k) σ'.get σ'.next):=by
 refine eV eL rfl fun nS=>?_
 clear nS
 have KN:=hS.yW
 have h0:iE σ O s ts (fun q=>A q∨∃k:Nat,k<0/\q=bd p k) σ.get σ.next:=⟨Nat.le_refl _,fun _ _ _=>rfl,by
  obtain⟨es,h1,h2⟩:=hO
  exact⟨es,h1,h2.mono fun q hq=>hq.elim id fun⟨k,hk,_⟩=>absurd hk (Nat.not_lt_zero k)⟩⟩
 (try((repeat(revert hN;revert N;apply Pn.out));refine wk @ab.eq_1 ?_;(repeat(refine Pn.mk ?_;intro N hN))))
 refine aM (fun n env st=>∃k:Nat,n=(4)-k/\k<=(4)/\env 8=.int .i64 (k:Int)/\st.get ⟨127000000,σ.next⟩=some ⟨true,2,[ab p]⟩/\(σ.next<st.next/\iE σ O s ts (fun q=>A q∨∃j:Nat,j<k/\q=bd p j) st.get st.next)) (4) ⟨0,by omega,by omega,sl @ab.eq_1,sl @ab.eq_1,⟨by(try dsimp only);omega,h0.frame (Nat.le_refl _) h.ov (by(try dsimp only);omega) (fun x hx=>by
  have:=dx hx
  simp only[go_sem, ↓reduceIte,Nat.reduceEqDiff,Nat.reduceAdd,Nat.reduceSub,Nat.reduceLeDiff,reduceCtorEq,this])⟩⟩ ?_
 rintro n_a env_a st_a ⟨k,rfl,ale,a8,ag0,kc⟩ di
 have a0:=di 0 (by kernel_rfl);have a3:=di 3 (by kernel_rfl)
 simp only[go_sem, ↓reduceIte,Nat.reduceEqDiff,Nat.reduceAdd,Nat.reduceSub,Nat.reduceLeDiff,reduceCtorEq,ab]at a0 a3
 clear di
 obtain⟨an,ak⟩:=kc
 have ha:=ak.Kz h hc hT
 by_cases hk:(k:Int)<4
 ·have cz:∀{e:Env} {gg:Rows} {nx:Nat},(e 8=.int .i64 (IntKind.i64.wrap ((k:Int)+1)))->(gg ⟨127000000,σ.next⟩=some ⟨true,2,[ab p]⟩)->(σ.next<nx/\iE σ O s ts (fun q=>A q∨∃j:Nat,j<(k+1)/\q=bd p j) gg nx)->∃m0,m0<(4)-k/\∃k:Nat,m0=(4)-k/\k<=(4)/\e 8=.int .i64 (k:Int)/\gg ⟨127000000,σ.next⟩=some ⟨true,2,[ab p]⟩/\(σ.next<nx/\iE σ O s ts (fun q=>A q∨∃j:Nat,j<k/\q=bd p j) gg nx):=fun x1 x2 x3=>⟨_,by omega,k+1,rfl,by omega,(by rw[x1,az (by omega)]),x2,x3⟩
  have dL:=ED p k (jL (by omega)) hx hy
  obtain⟨b,h1⟩:=ha.row
  have v1:=dx ha.cv
  (repeat(first|((repeat(revert hN;revert N;apply Pn.out));refine wk (tw @a8 (tw @ag0 (tw @a0 (tw @a3 (tw @hk (tw @h1 (tw @v1 @ab.eq_1))))))) ?_;(repeat(refine Pn.mk ?_;intro N hN)))|((try apply Or.inl);refine⟨_,aq.x (dL) (sd (tw @a8 (tw @ag0 (tw @a0 (tw @a3 (tw @hk (tw @h1 (tw @v1 @ab.eq_1)))))))),?_⟩;refine hN _ _ ?_;clear hN N)))
  refine aM (fun n env st=>∃t:Nat,n=(s.aB.ah.length)-t/\t<=(s.aB.ah.length)/\env 21=.int .i64 (t:Int)/\st.get ⟨127000000,σ.next⟩=some ⟨true,2,[ab p]⟩/\st.get ⟨127004003,st_a.next+1+1⟩=some ⟨true,2,[ab (bd p k)]⟩/\(st_a.next+3<=st.next/\iE σ O s ts (fun q=>A q∨∃j:Nat,j<k/\q=bd p j) st.get st_a.next/\((jT (eS s ts) (bd p k) t=[]/\env 6=.bV)∨∃o:Id,env 6=.own o 0 (jT (eS s ts) (bd p k) t).length/\st.get o=some ⟨true,1,(jT (eS s ts) (bd p k) t).map aw⟩/\0<(jT (eS s ts) (bd p k) t).length/\st_a.next+3<=o.bm/\o.bm<st.next))) (s.aB.ah.length) ⟨0,by omega,by omega,sl (tw @a8 (tw @ag0 (tw @a0 (tw @a3 @ab.eq_1)))),sl (tw @a8 (tw @ag0 (tw @a0 (tw @a3 @ab.eq_1)))),sl (tw @a8 (tw @ag0 (tw @a0 (tw @a3 @ab.eq_1)))),⟨by(try dsimp only);omega,ak.frame (Nat.le_refl _) ha.ov (Nat.le_refl _) (fun x hx=>(by
   have:=dx hx
   simp only[go_sem, ↓reduceIte,Nat.reduceEqDiff,Nat.reduceAdd,Nat.reduceSub,Nat.reduceLeDiff,reduceCtorEq,this])),.inl ⟨rfl,sd @Nat.zero_add⟩⟩⟩ ?_
  rintro n_b env_b st_b ⟨t,rfl,ble,b21,bg0,bg1,bI0⟩ e9
  have b0:=e9 0 (by kernel_rfl);have b3:=e9 3 (by kernel_rfl);have b5:=e9 5 (by kernel_rfl);have b8:=e9 8 (by kernel_rfl);have HI:=e9 20 (by kernel_rfl)
  simp only[go_sem, ↓reduceIte,Nat.reduceEqDiff,Nat.reduceAdd,Nat.reduceSub,Nat.reduceLeDiff,reduceCtorEq,a8,ag0,a0,a3,ab]at b0 b3 b5 b8 HI
  clear e9
  obtain⟨bn,bk,b6⟩:=bI0
  have Qd:y5 st_b.get st_b.next c T O s ts:=(bk.Kz h hc hT).frame (by omega) rfl rfl
  obtain⟨b2,h2⟩:=Qd.row
  have v2:=dx Qd.cv
  have vt:=dx (i:=⟨127000000,σ.next⟩) (n:=st_b.next) (by(try dsimp only);omega)
  have vq:=dx (i:=⟨127004003,st_a.next+1+1⟩) (n:=st_b.next) (by(try dsimp only);omega)
  by_cases ht:(t:Int)<(s.aB.ah.length:Int)
  ·have fJ:∀{e:Env} {gg:Rows} {nx:Nat},(e 21=.int .i64 (IntKind.i64.wrap ((t:Int)+1)))->(gg ⟨127000000,σ.next⟩=some ⟨true,2,[ab p]⟩)->(gg ⟨127004003,st_a.next+1+1⟩=some ⟨true,2,[ab (bd p k)]⟩)->(st_a.next+3<=nx/\iE σ O s ts (fun q=>A q∨∃j:Nat,j<k/\q=bd p j) gg st_a.next/\((jT (eS s ts) (bd p k) (t+1)=[]/\e 6=.bV)∨∃o:Id,e 6=.own o 0 (jT (eS s ts) (bd p k) (t+1)).length/\gg o=some ⟨true,1,(jT (eS s ts) (bd p k) (t+1)).map aw⟩/\0<(jT (eS s ts) (bd p k) (t+1)).length/\st_a.next+3<=o.bm/\o.bm<nx))->∃m0,m0<(s.aB.ah.length)-t/\∃t:Nat,m0=(s.aB.ah.length)-t/\t<=(s.aB.ah.length)/\e 21=.int .i64 (t:Int)/\gg ⟨127000000,σ.next⟩=some ⟨true,2,[ab p]⟩/\gg ⟨127004003,st_a.next+1+1⟩=some ⟨true,2,[ab (bd p k)]⟩/\(st_a.next+3<=nx/\iE σ O s ts (fun q=>A q∨∃j:Nat,j<k/\q=bd p j) gg st_a.next/\((jT (eS s ts) (bd p k) t=[]/\e 6=.bV)∨∃o:Id,e 6=.own o 0 (jT (eS s ts) (bd p k) t).length/\gg o=some ⟨true,1,(jT (eS s ts) (bd p k) t).map aw⟩/\0<(jT (eS s ts) (bd p k) t).length/\st_a.next+3<=o.bm/\o.bm<nx)):=fun x1 x2 x3 x4=>⟨_,by omega,t+1,rfl,by omega,(by rw[x1,az (by omega)]),x2,x3,x4⟩
   have RH:t<s.aB.ah.length:=by omega
   have DI:=ph (eS s ts) (bd p k) t
   have yv:jT (eS s ts) (bd p k) (t+1)=if eS s ts (bd p k) t=true then jT (eS s ts) (bd p k) t++[(t:Int)]else jT (eS s ts) (bd p k) t:=rfl
   generalize jT (eS s ts) (bd p k) t=L at b6 DI yv
   (try((repeat(revert hN;revert N;apply Pn.out));refine wk (tw @b21 (tw @bg0 (tw @bg1 (tw @b0 (tw @b3 (tw @b5 (tw @b8 (tw @HI (tw @ht (tw @h2 (tw @v2 (tw @vt (tw @vq @ab.eq_1))))))))))))) ?_;(repeat(refine Pn.mk ?_;intro N hN))))
   refine .inl ⟨_,Ob (Qd.frame (by(try dsimp only);omega) (sd @v2) (by(have:=dx Qd.tv;simp only[go_sem, ↓reduceIte,Nat.reduceEqDiff,Nat.reduceAdd,Nat.reduceSub,Nat.reduceLeDiff,reduceCtorEq,this]))) hS hF (bd p k) t (Cu RH),?_⟩
   refine hN _ _ ?_
   clear hN N
   cases hb:eS s ts (bd p k) t
   ·rw[hb,if_neg (by simp)]at yv
    (try((repeat(revert hN;revert N;apply Pn.out));refine wk (tw @b21 (tw @bg0 (tw @bg1 (tw @b0 (tw @b3 (tw @b5 (tw @b8 (tw @HI @hb)))))))) ?_;(repeat(refine Pn.mk ?_;intro N hN))))
    refine fJ ?_ ?_ ?_ (by(try dsimp only);exact⟨by omega,bk.frame (Nat.le_refl _) ha.ov (Nat.le_refl _) (fun x hx=>by
      have h1:=dx (i:=x) (n:=st_b.next) (by omega)
      simp only[go_sem, ↓reduceIte,Nat.reduceEqDiff,Nat.reduceAdd,Nat.reduceSub,Nat.reduceLeDiff,reduceCtorEq,h1]),by
     rw[yv]
     rcases b6 with⟨hL,h⟩|⟨o,h1,h2,h3,h4,h5⟩
     ·exact .inl ⟨hL,sd @h⟩
     ·have h8:=dx h5
      exact .inr ⟨o,sd @h1,sd (tw @h2 @h8),h3,h4,by omega⟩⟩)
    all_goals simp only[go_sem, ↓reduceIte,Nat.reduceEqDiff,Nat.reduceAdd,Nat.reduceSub,Nat.reduceLeDiff,reduceCtorEq,b21,bg0,bg1,b0,b3,b5,b8,HI,ab,vt,vq]
   ·rw[hb,if_pos rfl]at yv
    have Az:(L++[(t:Int)]).length=L.length+1:=by simp
    have zD:(L++[(t:Int)]).map aw=L.map aw++[[.int .i64 t]]:=by rw[List.map_append];rfl
    rcases b6 with⟨hL,b6⟩|⟨o,b6,bo,o4,o6,o7⟩
    ·subst hL
     (try((repeat(revert hN;revert N;apply Pn.out));refine wk (tw @b21 (tw @bg0 (tw @bg1 (tw @b0 (tw @b3 (tw @b5 (tw @b8 (tw @HI (tw @b6 @hb))))))))) ?_;(repeat(refine Pn.mk ?_;intro N hN))))
     refine fJ ?_ ?_ ?_ (by(try dsimp only);exact⟨by omega,bk.frame (Nat.le_refl _) ha.ov (Nat.le_refl _) (fun x hx=>by
      have h1:=dx (i:=x) (n:=st_b.next) (by omega)
      simp only[go_sem, ↓reduceIte,Nat.reduceEqDiff,Nat.reduceAdd,Nat.reduceSub,Nat.reduceLeDiff,reduceCtorEq,h1]),.inr ⟨⟨127010003,st_b.next+1+1+1⟩,by rw[yv,Az];simp only[go_sem, ↓reduceIte,Nat.reduceEqDiff,Nat.reduceAdd,Nat.reduceSub,Nat.reduceLeDiff,reduceCtorEq]<;>rfl,by rw[yv,zD];simp only[go_sem, ↓reduceIte,Nat.reduceEqDiff,Nat.reduceAdd,Nat.reduceSub,Nat.reduceLeDiff,reduceCtorEq]<;>rfl,by rw[yv,Az];omega,by(try dsimp only);omega,by(try dsimp only);omega⟩⟩)
     all_goals simp only[go_sem, ↓reduceIte,Nat.reduceEqDiff,Nat.reduceAdd,Nat.reduceSub,Nat.reduceLeDiff,reduceCtorEq,b21,bg0,bg1,b0,b3,b5,b8,HI,ab,vt,vq]
    ·have e1:L.length<=16777215:=by omega
     have yn:(L.map aw).length=L.length:=by simp
     have vo:=dx o7
     have vto:=dt (a:=⟨127000000,σ.next⟩) (b:=o) (by(try dsimp only);omega)
     have vqo:=dt (a:=⟨127004003,st_a.next+1+1⟩) (b:=o) (by(try dsimp only);omega)
     (try((repeat(revert hN;revert N;apply Pn.out));refine wk (tw @b21 (tw @bg0 (tw @bg1 (tw @b0 (tw @b3 (tw @b5 (tw @b8 (tw @HI (tw @b6 (tw @bo (tw @hb (tw @e1 (tw @yn @vo))))))))))))) ?_;(repeat(refine Pn.mk ?_;intro N hN))))
     refine fJ ?_ ?_ ?_ (by(try dsimp only);exact⟨by omega,bk.frame (Nat.le_refl _) ha.ov (Nat.le_refl _) (fun x hx=>by
      have h1:=dx (i:=x) (n:=st_b.next) (by omega)
      have h2:=dt (a:=x) (b:=o) (by omega)
      simp only[go_sem, ↓reduceIte,Nat.reduceEqDiff,Nat.reduceAdd,Nat.reduceSub,Nat.reduceLeDiff,reduceCtorEq,h1,h2]),.inr ⟨⟨127010003,st_b.next+1+1+1⟩,by rw[yv,Az];simp only[go_sem, ↓reduceIte,Nat.reduceEqDiff,Nat.reduceAdd,Nat.reduceSub,Nat.reduceLeDiff,reduceCtorEq]<;>rfl,by rw[yv,zD];simp only[go_sem, ↓reduceIte,Nat.reduceEqDiff,Nat.reduceAdd,Nat.reduceSub,Nat.reduceLeDiff,reduceCtorEq]<;>rfl,by rw[yv,Az];omega,by(try dsimp only);omega,by(try dsimp only);omega⟩⟩)
     all_goals simp only[go_sem, ↓reduceIte,Nat.reduceEqDiff,Nat.reduceAdd,Nat.reduceSub,Nat.reduceLeDiff,reduceCtorEq,b21,bg0,bg1,b0,b3,b5,b8,HI,ab,vt,vq,vto,vqo]
  ·obtain⟨es,hg,how⟩:=bk.2.2
   have vo:=dx Qd.ov
   obtain⟨fi,Ax,rT,OA,_,_⟩:=ta (bd p k) es
   unfold dE at rT
   unfold dJ at OA
   have hq:((⟨127000000,σ.next⟩:Id)=O)=False:=(dt (a:=O) (b:=⟨127000000,σ.next⟩) (by have:=h.ov;(try dsimp only);omega)).2
   have htt:t=s.aB.ah.length:=by omega
   subst htt
   have pT:jT (eS s ts) (bd p k) s.aB.ah.length=ft s ts (bd p k):=rfl
   rw[pT]at b6
   have hAk:∀q,(A q∨∃j:Nat,j<k+1/\q=bd p j)->(A q∨∃j:Nat,j<k/\q=bd p j)∨q=bd p k:=fun q hq=>by
    rcases hq with hq|⟨j,hj,hq⟩
    ·exact .inl (.inl hq)
    ·rcases Nat.lt_or_ge j k with h|h
     ·exact .inl (.inr ⟨j,h,hq⟩)
     ·exact .inr (by rw[hq,show j=k by omega])
   rcases b6 with⟨hL,b6⟩|⟨o,b6,bo,o4,o6,o7⟩
   ·have d0:decide ((0:Int)<((0:Nat):Int))=false:=rfl
    (try((repeat(revert hN;revert N;apply Pn.out));refine wk (tw @b21 (tw @bg0 (tw @bg1 (tw @b0 (tw @b3 (tw @b5 (tw @b8 (tw @HI (tw @b6 (tw @ht (tw @h2 (tw @v2 (tw @vt (tw @vq (tw @vo (tw @hg (tw @Ax (tw @OA (tw @ab.eq_1 @d0))))))))))))))))))) ?_;(repeat(refine Pn.mk ?_;intro N hN))))
    refine cz ?_ ?_ (by(try dsimp only);exact⟨by omega,bk.cut hg how (by omega) (fun x hx LQ=>by
     have h1:=dx (i:=x) (n:=st_b.next) (by omega)
     have h2:(x=O)=False:=eq_false LQ
     simp only[go_sem, ↓reduceIte,Nat.reduceEqDiff,Nat.reduceAdd,Nat.reduceSub,Nat.reduceLeDiff,reduceCtorEq,h1,h2]) hL (sl @OA) hAk⟩)
    all_goals simp only[go_sem, ↓reduceIte,Nat.reduceEqDiff,Nat.reduceAdd,Nat.reduceSub,Nat.reduceLeDiff,reduceCtorEq,a8,ag0,a0,a3,b21,bg0,bg1,b0,b3,b5,b8,HI,ab,vt,vo,hq]
   ·have gY:ft s ts (bd p k)≠[]:=fun e=>by rw[e]at o4;cases o4
    have d1:decide ((0:Int)<((ft s ts (bd p k)).length:Int))=true:=decide_eq_true (by omega)
    have I6:=rT (.own o 0 (ft s ts (bd p k)).length)
    have v8:=dx o7
    have oO:(o=O)=False:=eq_false (by
     rintro rfl
     rw[hg]at bo
     injection bo with bo
     injection bo with _ bo _
     exact Eu bo)
    (try((repeat(revert hN;revert N;apply Pn.out));refine wk (tw @b21 (tw @bg0 (tw @bg1 (tw @b0 (tw @b3 (tw @b5 (tw @b8 (tw @HI (tw @b6 (tw @ht (tw @h2 (tw @v2 (tw @vt (tw @vq (tw @vo (tw @hg (tw @Ax (tw @I6 (tw @ab.eq_1 @d1))))))))))))))))))) ?_;(repeat(refine Pn.mk ?_;intro N hN))))
    refine cz ?_ ?_ (by(try dsimp only);exact⟨by omega,bk.put hg how (by omega) (fun x hx LQ=>by
     have h1:=dx (i:=x) (n:=st_b.next) (by omega)
     have h2:(x=O)=False:=eq_false LQ
     simp only[go_sem, ↓reduceIte,Nat.reduceEqDiff,Nat.reduceAdd,Nat.reduceSub,Nat.reduceLeDiff,reduceCtorEq,h1,h2]) (o:=o) gY (by omega) (sd (tw @oO (tw @v8 @bo))) (sl @I6) hAk⟩)
    all_goals simp only[go_sem, ↓reduceIte,Nat.reduceEqDiff,Nat.reduceAdd,Nat.reduceSub,Nat.reduceLeDiff,reduceCtorEq,a8,ag0,a0,a3,b21,bg0,bg1,b0,b3,b5,b8,HI,ab,vt,vo,hq]
 ·have UM:k=4:=by omega
  subst UM
  (try((repeat(revert hN;revert N;apply Pn.out));refine wk (tw @a8 (tw @ag0 (tw @a0 (tw @a3 @hk)))) ?_;(repeat(refine Pn.mk ?_;intro N hN))))
  exact fb (.inr rfl) (vs:=[]) rfl ⟨rfl,ak.frame (Nat.le_refl _) ha.ov (by(try dsimp only);omega) (fun x hx=>rfl)⟩
structure FX (g:Rows) (n:Nat) (c T O:Id) (s:aD) (ts:List ae):Prop where
 o:pK g n c T O s ts
 op:∃es:List En,g O=some ⟨true,mP.lT,es.map pg⟩/\uW g n es (ft s ts) (fun _=>True)
theorem FX.frame {g g':Rows} {n n':Nat} {c T O:Id} {s:aD} {ts:List ae} (h:FX g n c T O s ts) (hn:n<=n') (hf:∀x:Id,x.bm<n->g' x=g x):FX g' n' c T O s ts:=
 ⟨h.o.frame hn hf,by
  obtain⟨es,h1,h2⟩:=h.op
  exact⟨es,(hf _ h.o.ov).trans h1,h2.frame hn fun x hx _=>hf x hx⟩⟩
theorem pK.RZ {σ:ar} {g:Rows} {n:Nat} {c T O:Id} {s:aD} {ts:List ae} {A:ad->Prop} (h:pK σ.get σ.next c T O s ts) (k:iE σ O s ts A g n):pK g n c T O s ts:=h.look k.ow
theorem IB {s:aD} (hT:1<=s.ay) {ts:List ae} {q:ad} (h:∀t∈ts,∀k:Nat,k<4->q≠bd t.bc k):ft s ts q=[]:=by
 unfold ft
 refine Fo (fun t=>?_) _
 cases hb:eS s ts q t
 ·rfl
 ·exfalso
  simp[eS]at hb
  obtain⟨⟨h1,h2⟩,h3⟩:=hb
  obtain⟨k,hk,h4⟩:=bind_some (s:=s.aB) (F:=gR ts) (p:=q) (t:=t) 4 (by have:qb s.aB (gR ts) q t=dq s.aB (gR ts) q t 4:=rfl;omega)
  have h5:0<=eJ ts (bd q k):=by
   unfold gR at h4
   split at h4
   ·assumption
   ·omega
  obtain⟨h6,h7⟩:=kD h5
  have OK:(kF k).toNat<4/\((kF k).toNat:Int)=kF k:=by
   have:k=0∨k=1∨k=2∨k=3:=by omega
   rcases this with rfl|rfl|rfl|rfl<;>decide
  refine h _ (kY h6) (kF k).toNat OK.1 ?_
  rw[h7,OK.2,yT q k hk]
theorem Ci {l:List ae} {t:ae} (h:t∈l):∃j,j<l.length/\t=aU l j:=by
 obtain⟨j,hj,rfl⟩:=List.getElem_of_mem h
 exact⟨j,hj,(ij hj).symm⟩
def C1 (s:aD) (l:List ae) (j:Nat) (q:ad):Prop:=ft s l q=[]/\(∀i:Nat,i<l.length->∀k:Nat,k<4->q≠bd (aU l i).bc k)∨∃i:Nat,i<j/\∃k:Nat,k<4/\q=bd (aU l i).bc k
theorem Kn {s:aD} (hT:1<=s.ay) (l:List ae) (q:ad):C1 s l l.length q:=by
 by_cases h:∃i:Nat,i<l.length/\∃k:Nat,k<4/\q=bd (aU l i).bc k
 ·exact .inr h
 ·have h2:∀i:Nat,i<l.length->∀k:Nat,k<4->q≠bd (aU l i).bc k:=fun i hi k hk e=>h ⟨i,hi,k,hk,e⟩
  exact .inl ⟨IB hT fun t ht k hk=>by
   obtain⟨j,hj,rfl⟩:=Ci ht
   exact h2 j hj k hk,h2⟩
def TD (σ:ar) (s:aD) (ts:List ae) (r:AV) (σ':ar):Prop:=
 ∃c T O:Id,r=.ptr c 0 0/\FX σ'.get σ'.next c T O s ts/\σ.next<=c.bm/\σ.next<=T.bm/\σ.next<=O.bm/\σ.next<=σ'.next/\∀x:Id,x.bm<σ.next->σ'.get x=σ.get x
theorem zV (s:aD) (hS:iH s.aB) (Ul:1<=s.ay) (l:List ae) (hA:lp s.aB l) (σ:ar):Call Tryz.prog 73 [.agg (aC s),.agg [.sl (l.map aj)]] σ (TD σ s l):=by
 refine eV eL rfl fun nS=>?_
 clear nS
 have Gz:=hA.1.Bd
 (try((repeat(revert hN;revert N;apply Pn.out));refine wk @aC.eq_1 ?_;(repeat(refine Pn.mk ?_;intro N hN))))
 refine aM (fun n env st=>∃k:Nat,n=(l.length)-k/\k<=(l.length)/\env 18=.int .i64 (k:Int)/\st.get ⟨73001004,σ.next+1⟩=some ⟨true,6,[[.sl (s.aB.ax.map bP),.sl (s.aB.ah.map bp),.sl (s.cu.ah.map aj),.int .i64 s.ay,.map ⟨73001001,σ.next+1⟩ mP,.map ⟨73001002,σ.next+1⟩ mP]]⟩/\st.get ⟨73001001,σ.next+1⟩=some ⟨true,mP.lT,(l.take k).map aj⟩/\st.get ⟨73001002,σ.next+1⟩=some ⟨true,mP.lT,[]⟩/\st.get ⟨73000001,σ.next⟩=some ⟨true,1,[[.sl (l.map aj)]]⟩/\(σ.next+3<=st.next/\∀x:Id,x.bm<σ.next->st.get x=σ.get x)) (l.length) ⟨0,by omega,by omega,sl @Nat.zero_add,sl @Nat.zero_add,sl @Nat.zero_add,sl @Nat.zero_add,sl @Nat.zero_add,⟨by(try dsimp only);omega,fun x hx=>by
  have:=dx hx
  simp only[go_sem, ↓reduceIte,Nat.reduceEqDiff,Nat.reduceAdd,Nat.reduceSub,Nat.reduceLeDiff,reduceCtorEq,this]⟩⟩ ?_
 rintro n_a env_a st_a ⟨k,rfl,ale,a18,ag0,ag1,ag2,ag3,kc⟩ di
 have a3:=di 3 (by kernel_rfl);have a5:=di 5 (by kernel_rfl);have P4:=di 16 (by kernel_rfl);have a17:=di 17 (by kernel_rfl)
 simp only[go_sem, ↓reduceIte,Nat.reduceEqDiff,Nat.reduceAdd,Nat.reduceSub,Nat.reduceLeDiff,reduceCtorEq]at a3 a5 P4 a17
 clear di
 obtain⟨an,di⟩:=kc
 have v1:=dx (i:=⟨73001004,σ.next+1⟩) (n:=st_a.next) (by(try dsimp only);omega)
 have v2:=dx (i:=⟨73001001,σ.next+1⟩) (n:=st_a.next) (by(try dsimp only);omega)
 have v3:=dx (i:=⟨73001002,σ.next+1⟩) (n:=st_a.next) (by(try dsimp only);omega)
 have v4:=dx (i:=⟨73000001,σ.next⟩) (n:=st_a.next) (by(try dsimp only);omega)
 by_cases hk:(k:Int)<(l.length:Int)
 ·have cz:∀{e:Env} {gg:Rows} {nx:Nat},(e 18=.int .i64 (IntKind.i64.wrap ((k:Int)+1)))->(gg ⟨73001004,σ.next+1⟩=some ⟨true,6,[[.sl (s.aB.ax.map bP),.sl (s.aB.ah.map bp),.sl (s.cu.ah.map aj),.int .i64 s.ay,.map ⟨73001001,σ.next+1⟩ mP,.map ⟨73001002,σ.next+1⟩ mP]]⟩)->(gg ⟨73001001,σ.next+1⟩=some ⟨true,mP.lT,(l.take (k+1)).map aj⟩)->(gg ⟨73001002,σ.next+1⟩=some ⟨true,mP.lT,[]⟩)->(gg ⟨73000001,σ.next⟩=some ⟨true,1,[[.sl (l.map aj)]]⟩)->(σ.next+3<=nx/\∀x:Id,x.bm<σ.next->gg x=σ.get x)->∃m0,m0<(l.length)-k/\∃k:Nat,m0=(l.length)-k/\k<=(l.length)/\e 18=.int .i64 (k:Int)/\gg ⟨73001004,σ.next+1⟩=some ⟨true,6,[[.sl (s.aB.ax.map bP),.sl (s.aB.ah.map bp),.sl (s.cu.ah.map aj),.int .i64 s.ay,.map ⟨73001001,σ.next+1⟩ mP,.map ⟨73001002,σ.next+1⟩ mP]]⟩/\gg ⟨73001001,σ.next+1⟩=some ⟨true,mP.lT,(l.take k).map aj⟩/\gg ⟨73001002,σ.next+1⟩=some ⟨true,mP.lT,[]⟩/\gg ⟨73000001,σ.next⟩=some ⟨true,1,[[.sl (l.map aj)]]⟩/\(σ.next+3<=nx/\∀x:Id,x.bm<σ.next->gg x=σ.get x):=fun x1 x2 x3 x4 x5 x6=>⟨_,by omega,k+1,rfl,by omega,(by rw[x1,az (by omega)]),x2,x3,x4,x5,x6⟩
  have eX:k<l.length:=by omega
  have hg:=gw eX
  have hm:=wz (Ke hA.1.NB eX)
  have pj:=MJ eX
  (try((repeat(revert hN;revert N;apply Pn.out));refine wk (tw @a18 (tw @ag0 (tw @ag1 (tw @ag2 (tw @ag3 (tw @a3 (tw @a5 (tw @P4 (tw @a17 (tw @hk (tw @hg (tw @hm (tw @v1 (tw @v2 (tw @v3 (tw @v4 @aj.eq_1)))))))))))))))) ?_;(repeat(refine Pn.mk ?_;intro N hN))))
  refine cz ?_ ?_ ?_ ?_ ?_ (by(try dsimp only);exact⟨by omega,fun x hx=>by
   have h1:=dx (i:=x) (n:=st_a.next) (by omega)
   have h2:=dt (a:=x) (b:=⟨73001001,σ.next+1⟩) (by(try dsimp only);omega)
   have h3:=di x hx
   simp only[go_sem, ↓reduceIte,Nat.reduceEqDiff,Nat.reduceAdd,Nat.reduceSub,Nat.reduceLeDiff,reduceCtorEq,h1,h2,h3]⟩)
  all_goals simp only[go_sem, ↓reduceIte,Nat.reduceEqDiff,Nat.reduceAdd,Nat.reduceSub,Nat.reduceLeDiff,reduceCtorEq,a18,ag0,ag1,ag2,ag3,a3,a5,P4,a17,aj,v1,v2,v3,v4,pj]
 ·have kH:k=l.length:=by omega
  subst kH
  have oN:l.take l.length=l:=List.take_length
  (try((repeat(revert hN;revert N;apply Pn.out));refine wk (tw @a18 (tw @ag0 (tw @ag1 (tw @ag2 (tw @ag3 (tw @a3 (tw @a5 (tw @P4 (tw @a17 (tw @hk (tw @v1 (tw @v2 (tw @v3 @v4))))))))))))) ?_;(repeat(refine Pn.mk ?_;intro N hN))))
  refine aM (fun n env st=>∃j:Nat,n=(l.length)-j/\j<=(l.length)/\env 34=.int .i64 (j:Int)/\(σ.next+3<=st.next/\pK st.get st.next ⟨73001004,σ.next+1⟩ ⟨73001001,σ.next+1⟩ ⟨73001002,σ.next+1⟩ s l/\(∀x:Id,x.bm<σ.next->st.get x=σ.get x)/\∃es:List En,st.get ⟨73001002,σ.next+1⟩=some ⟨true,mP.lT,es.map pg⟩/\uW st.get st.next es (ft s l) (C1 s l j))) (l.length) ⟨0,by omega,by omega,sl (tw @a18 (tw @ag0 (tw @ag1 (tw @ag2 (tw @ag3 (tw @a3 (tw @a5 (tw @P4 @a17)))))))),by(try dsimp only);exact⟨by omega,⟨sd @ag0,sd (tw @ag1 @oN),⟨[],sd @ag2,by intro r hr;cases hr⟩,by(try dsimp only);omega,by(try dsimp only);omega,by(try dsimp only);omega,(by intro e;injection e with e1 e2;revert e1;decide),(by intro e;injection e with e1 e2;revert e1;decide),(by intro e;injection e with e1 e2;revert e1;decide)⟩,fun x hx=>by
   have h3:=di x hx
   simp only[go_sem, ↓reduceIte,Nat.reduceEqDiff,Nat.reduceAdd,Nat.reduceSub,Nat.reduceLeDiff,reduceCtorEq,h3],[],sl @ag2,List.nodup_nil,fun q hq=>.inl ⟨by
    rcases hq with hq|⟨i,hi,_⟩
    ·exact hq.1
    ·exact absurd hi (Nat.not_lt_zero i),fun e he=>by cases he⟩⟩⟩ ?_
  rintro n_b env_b st_b ⟨j,rfl,ble,b34,bI0⟩ e9
  have b5:=e9 5 (by kernel_rfl);have tz:=e9 32 (by kernel_rfl);have ue:=e9 33 (by kernel_rfl)
  simp only[go_sem, ↓reduceIte,Nat.reduceEqDiff,Nat.reduceAdd,Nat.reduceSub,Nat.reduceLeDiff,reduceCtorEq,a18,ag0,ag1,ag2,ag3,a3,a5,P4,a17]at b5 tz ue
  clear e9
  obtain⟨bn,bC,e9,es,bO,bS⟩:=bI0
  by_cases hj:(j:Int)<(l.length:Int)
  ·have fJ:∀{e:Env} {gg:Rows} {nx:Nat},(e 34=.int .i64 (IntKind.i64.wrap ((j:Int)+1)))->(σ.next+3<=nx/\pK gg nx ⟨73001004,σ.next+1⟩ ⟨73001001,σ.next+1⟩ ⟨73001002,σ.next+1⟩ s l/\(∀x:Id,x.bm<σ.next->gg x=σ.get x)/\∃es:List En,gg ⟨73001002,σ.next+1⟩=some ⟨true,mP.lT,es.map pg⟩/\uW gg nx es (ft s l) (C1 s l (j+1)))->∃m0,m0<(l.length)-j/\∃j:Nat,m0=(l.length)-j/\j<=(l.length)/\e 34=.int .i64 (j:Int)/\(σ.next+3<=nx/\pK gg nx ⟨73001004,σ.next+1⟩ ⟨73001001,σ.next+1⟩ ⟨73001002,σ.next+1⟩ s l/\(∀x:Id,x.bm<σ.next->gg x=σ.get x)/\∃es:List En,gg ⟨73001002,σ.next+1⟩=some ⟨true,mP.lT,es.map pg⟩/\uW gg nx es (ft s l) (C1 s l j)):=fun x1 x2=>⟨_,by omega,j+1,rfl,by omega,(by rw[x1,az (by omega)]),x2⟩
   have iM:j<l.length:=by omega
   have hg:=gw iM
   have Nn:=te (hA.1.pt iM)
   (try((repeat(revert hN;revert N;apply Pn.out));refine wk (tw @b34 (tw @b5 (tw @tz (tw @ue (tw @hj (tw @hg @aj.eq_1)))))) ?_;(repeat(refine Pn.mk ?_;intro N hN))))
   have hG:∀x:Id,x.bm<st_b.next->(bF (bF st_b.get ⟨73009002,st_b.next+1⟩ ⟨true,3,[[.int .i64 0,.int .i64 0,.int .i64 0]]⟩) ⟨73009002,st_b.next+1⟩ ⟨true,3,[[.int .i64 (aU l j).bc.eI,.int .i64 (aU l j).bc.eF,.int .i64 (aU l j).bU]]⟩) x=st_b.get x:=fun x hx=>by
    have h1:=dx hx
    simp only[go_sem, ↓reduceIte,Nat.reduceEqDiff,Nat.reduceAdd,Nat.reduceSub,Nat.reduceLeDiff,reduceCtorEq,h1]
   have SJ:pK (bF (bF st_b.get ⟨73009002,st_b.next+1⟩ ⟨true,3,[[.int .i64 0,.int .i64 0,.int .i64 0]]⟩) ⟨73009002,st_b.next+1⟩ ⟨true,3,[[.int .i64 (aU l j).bc.eI,.int .i64 (aU l j).bc.eF,.int .i64 (aU l j).bU]]⟩) (st_b.next+1+1+1) ⟨73001004,σ.next+1⟩ ⟨73001001,σ.next+1⟩ ⟨73001002,σ.next+1⟩ s l:=bC.frame (by omega) hG
   refine .inr (aI _ _ _ _ _ (fun r σ1 hq=>?_) (zK (σ:=⟨bF (bF st_b.get ⟨73009002,st_b.next+1⟩ ⟨true,3,[[.int .i64 0,.int .i64 0,.int .i64 0]]⟩) ⟨73009002,st_b.next+1⟩ ⟨true,3,[[.int .i64 (aU l j).bc.eI,.int .i64 (aU l j).bc.eF,.int .i64 (aU l j).bU]]⟩,st_b.next+1+1+1⟩) SJ.Kz SJ.cO SJ.TO (C1 s l j) ⟨es,(hG _ (by(try dsimp only);omega)).trans bO,bS.frame (by(try dsimp only);omega) fun x hx _=>hG x hx⟩ hS (iH.M5 hA) (aU l j).bc Nn.1 Nn.2))
   obtain⟨g1,x1⟩:=σ1
   obtain⟨rfl,hL⟩:=hq
   (try dsimp only at hL)
   have Qa:=SJ.RZ hL
   have hLn:=hL.1
   have hLf:=hL.2.1
   obtain⟨es2,Uh,Lp⟩:=hL.2.2
   (try dsimp only at hLn hLf)
   have hAj:∀q,C1 s l (j+1) q->C1 s l j q∨∃k:Nat,k<4/\q=bd (aU l j).bc k:=fun q hq=>by
    rcases hq with hq|⟨i,hi,hq⟩
    ·exact .inl (.inl hq)
    ·rcases Nat.lt_or_ge i j with h|h
     ·exact .inl (.inr ⟨i,h,hq⟩)
     ·exact .inr (by rw[show i=j by omega]at hq;exact hq)
   refine hN _ _ ?_
   clear hN N
   (try((repeat(revert hN;revert N;apply Pn.out));refine wk (tw @b34 (tw @b5 (tw @tz @ue))) ?_;(repeat(refine Pn.mk ?_;intro N hN))))
   exact fJ (sd (tw @b34 (tw @b5 (tw @tz @ue)))) (by(try dsimp only);exact⟨by omega,Qa.frame (by omega) (fun x hx=>rfl),fun x hx=>by
    have h1:=dx (i:=x) (n:=st_b.next) (by omega)
    have h2:=hLf x (by omega) (fun e=>by rw[e]at hx;(try dsimp only at hx);omega)
    have h3:=e9 x hx
    simp only[h2]
    simp only[go_sem, ↓reduceIte,Nat.reduceEqDiff,Nat.reduceAdd,Nat.reduceSub,Nat.reduceLeDiff,reduceCtorEq,h1,h3],es2,Uh,(Lp.frame (by omega) fun x hx _=>rfl).mono hAj⟩)
  ·have gN:j=l.length:=by omega
   subst gN
   (try((repeat(revert hN;revert N;apply Pn.out));refine wk (tw @b34 (tw @b5 (tw @tz (tw @ue @hj)))) ?_;(repeat(refine Pn.mk ?_;intro N hN))))
   exact fb (.inl rfl) (vs:=[.ptr ⟨73001004,σ.next+1⟩ 0 0]) (sd @Nat.zero_add) ⟨_,_,_,rfl,⟨bC.frame (by(try dsimp only);omega) (fun x hx=>rfl),es,bO,(bS.frame (by(try dsimp only);omega) fun x hx _=>rfl).mono fun q _=>Kn Ul l q⟩,by(try dsimp only);omega,by(try dsimp only);omega,by(try dsimp only);omega,by(try dsimp only);omega,e9⟩
end Go.Proofs.YtgoelphibofcmaaGreat.V

namespace Go.Proofs.YtgoelphibofcmaaGreat.V
open Go.RowKit
variable {P:Program} {w w':World} {D D':Nat->Prop} {ι ι':Names} {hs:Nat} {g:Rows}
theorem jC.II (hc:∀b x,D b->w'.cell? ⟨b,x,none⟩=w.cell? ⟨b,x,none⟩) {a:AV} {v:Value} (h:jC P w D a v):jC P w' D a v:=by
 induction h with
 |int k n=>exact .int k n
 |bool b=>exact .bool b
 |str s=>exact .str s
 |bV=>exact .bV
 |gP=>exact .gP
 |jb=>exact .jb
 |jk=>exact .jk
 |AG a c h=>exact .AG a c h
 |sl rows b o n c sz vs h1 h2 h3 h4 h5 h5' h6 _ ih=>exact .sl rows b o n c sz vs h1 h2 h3 h4 h5 h5' (fun i j hi hj=>(hc b _ h4).trans (h6 i j hi hj)) ih
 |dm cs b o vs h1 Oh h2 _ ih=>exact .dm cs b o vs h1 Oh (fun j hj=>(hc b _ h1).trans (h2 j hj)) ih
 |agg cs vs f h1 h2 h3 _ ih=>exact .agg cs vs f h1 h2 h3 ih
 |fn f cZ vs g h1 h2 h3 _ ih=>exact .fn f cZ vs g h1 h2 h3 ih
theorem dc.II (hc:∀b x,D b->w'.cell? ⟨b,x,none⟩=w.cell? ⟨b,x,none⟩) {a:AV} {v:Value} (h:dc P w D ι a v):dc P w' D ι a v:=by
 induction h with
 |eP a v h=>exact .eP a v (h.II hc)
 |map id m B h1 h2=>exact .map id m B h1 h2
 |rK id c B h1 h2=>exact .rK id c B h1 h2
 |own id off len o cap B h1 h2 h3 h4 h5 h6=>exact .own id off len o cap B h1 h2 h3 h4 h5 h6
 |ptr id i off B h1 h2=>exact .ptr id i off B h1 h2
 |agg cs vs f h1 h2 h3 _ ih=>exact .agg cs vs f h1 h2 h3 ih
 |iC cs vs f h1 h2 _ ih=>exact .iC cs vs f h1 h2 ih
 |fn f cZ vs g h1 h2 h3 _ ih=>exact .fn f cZ vs g h1 h2 h3 ih
 |tT f cZ vs g h1 h2 h3 _ ih=>exact .tT f cZ vs g h1 h2 h3 ih
def HV (w:World) (rr:Nat):Prop:=∃m s seen c,w.heap[rr]? =some (.mapIter m s seen c)
theorem HV.cell {rr:Nat} (h:HV w rr) (x:Nat):w.cell? ⟨rr,x,none⟩=none:=by
 obtain⟨m,s,seen,c,h⟩:=h
 simp[World.cell?,h]
structure PY (P:Program) (w:World) (D:Nat->Prop) (ι:Names) (m:MK) (L:List MapEntry) (left:List (List AV)):Prop where
 len:left.length=L.length
 at_:∀(i:Nat) (cs:List AV),left[i]? =some cs->∃(e:MapEntry) (kv vv:AV),L[i]? =some e/\part m.ka m.ks cs=some kv/\cs[m.ks]? =some vv/\dc P w D ι kv e.key/\dc P w D ι vv e.val
theorem PY.rep {m:MK} {L:List MapEntry} {left:List (List AV)} (h:PY P w D ι m L left) (hr:∀{a v},dc P w D ι a v->dc P w' D' ι' a v):PY P w' D' ι' m L left:=⟨h.len,fun i cs hi=>by
 obtain⟨e,kv,vv,h1,h2,h3,h4,h5⟩:=h.at_ i cs hi
 exact⟨e,kv,vv,h1,h2,h3,hr h4,hr h5⟩⟩
theorem mU {α β:Type} {l:List α} {k:List β} {i j:Nat} {x:α} (hl:l.length=k.length) (h:(l.eraseIdx i)[j]? =some x):∃q:Nat,l[q]? =some x/\(k.eraseIdx i)[j]? =k[q]? :=by
 rw[List.getElem?_eraseIdx]at h
 split at h
 ·rename_i hj;exact⟨j,h,by rw[List.getElem?_eraseIdx,if_pos hj]⟩
 ·rename_i hj;exact⟨j+1,h,by rw[List.getElem?_eraseIdx,if_neg hj]⟩
theorem PY.erase {m:MK} {L:List MapEntry} {left:List (List AV)} (h:PY P w D ι m L left) {i:Nat} (hi:i<L.length):PY P w D ι m (L.eraseIdx i) (left.eraseIdx i):=⟨by
 rw[List.length_eraseIdx,List.length_eraseIdx,h.len],fun j cs hj=>by
 obtain⟨q,hq,he⟩:=mU h.len hj
 obtain⟨e,kv,vv,h1,h2⟩:=h.at_ q cs hq
 exact⟨e,kv,vv,he.trans h1,h2⟩⟩
theorem nE:∀{l:List MapEntry} {i:Nat} {e:MapEntry},(l.map (·.born)).Nodup->l[i]? =some e->l.filter (fun x=>x.born !=e.born)=l.eraseIdx i
 |x::l,0,e,hn,h=>by
  simp at h;subst h
  obtain⟨h1,h2⟩:=List.nodup_cons.1 (show(x.born::l.map (·.born)).Nodup from hn)
  rw[List.filter_cons,if_neg (by simp),List.eraseIdx_cons_zero]
  refine List.filter_eq_self.2 fun y hy=>?_
  have:y.born≠x.born:=fun hc=>h1 (by rw[<-hc];exact List.mem_map_of_mem hy)
  simpa using this
 |x::l,i+1,e,hn,h=>by
  obtain⟨h1,h2⟩:=List.nodup_cons.1 (show(x.born::l.map (·.born)).Nodup from hn)
  simp only[List.getElem?_cons_succ]at h
  have hx:x.born≠e.born:=fun hc=>h1 (by rw[hc];exact List.mem_map_of_mem (List.mem_of_getElem? h))
  rw[List.filter_cons,if_pos (by simpa using hx),List.eraseIdx_cons_succ,nE h2 h]
theorem Ec {es:Array MapEntry} {clock:Nat} {seen:Array Nat} {i:Nat} {e:MapEntry} (hs:F3 es clock) (h:(leftOf es seen).toList[i]? =some e):(leftOf es (seen.push e.born)).toList=(leftOf es seen).toList.eraseIdx i:=by
 have hn:((leftOf es seen).toList.map (·.born)).Nodup:=by
  unfold leftOf
  rw[Array.toList_filter]
  exact((List.filter_sublist (p:=fun e=> !seen.contains e.born) (l:=es.toList)).map MapEntry.born).nodup hs.2
 rw[<-nE hn h]
 unfold leftOf
 rw[Array.toList_filter,Array.toList_filter,List.filter_filter]
 refine List.filter_congr fun x _=>?_
 rw[contains_push]
 cases seen.contains x.born<;>cases hb:(x.born==e.born)<;>simp_all
def CS (P:Program) (nt:Nat) (c:Code) (W:(Ex->Env->ar->Prop)->Env->ar->Prop):Prop:=
 ∀(hs:Nat) (Q:Ex->Env->ar->Prop) (env:Env) (σ:ar) (a:Act) (w:World) (D:Nat->Prop) (ι:Names) (Q':Exit->Act->World->Prop),W Q env σ->St P hs nt D ι env σ a w->uZ P hs nt a.defers Q σ.next D ι w Q'->CX P c Q' a w
theorem CS.code (hm:P.follows .mixedOrders=true) {md:List (Nat×Nat)} {nt vG:Nat} {c:Code} {vc:VC} (h:jE P md nt vG c=some vc):CS P nt c (ek (Sound P) vc):=
 fun _ Q env σ a w D ι Q' hv dL hQ=>vD hm c vc h Q env σ a w D ι Q' hv dL hQ
theorem CS.seq {nt:Nat} {x y:Code} {V W:(Ex->Env->ar->Prop)->Env->ar->Prop} (h:CS P nt x V) (k:CS P nt y W):CS P nt (.seq x y) (fun Q=>V (du (W Q) Q)):=fun hs Q env σ a w D ι Q' hv dL hQ=>by
 refine FI (h hs _ env σ a w D ι _ hv dL fun ex jA σ1 a1 w1 D1 ι1 hq T j7 hd hle=>?_)
 cases ex with
 |normal=>exact k hs Q jA σ1 a1 w1 D1 ι1 Q' hq j7 (by rw[hd];exact hQ.later T hle)
 |exit id=>exact hQ (.exit id) jA σ1 a1 w1 D1 ι1 hq T j7 hd hle
 |ret=>exact hQ .ret jA σ1 a1 w1 D1 ι1 hq T j7 hd hle
theorem CS.fn {f:Nat} {fn:Func} {c:Code} {args:List AV} {σ:ar} {K:AV->ar->Prop} {vr:List oj} {W:(Ex->Env->ar->Prop)->Env->ar->Prop} (Qf:P.funcs[f]? =some fn) (hc:fn.body=some c) (hr:fn.results.toList.mapM (Db P)=some vr) (ha:fn.params.size+fn.nfree=args.length) (hle:fn.params.size+fn.nfree<=fn.ntmps)
  (h:CS P fn.ntmps c W) (hv:W (k8 vr K) (ck args) σ):Call P f args σ K:=
 fN (vg Qf hc hr ha hle fun hs w D ι a Q' dL hQ=>h hs (k8 vr K) (ck args) σ a w D ι Q' hv dL hQ)
theorem wG {α:Type}:∀{l:List α} {i:Nat} {x:α},l[i]? =some x->(x::l.eraseIdx i).Perm l
 |y::l,0,x,h=>by simp at h;subst h;exact List.Perm.refl _
 |y::l,i+1,x,h=>by
  simp only[List.getElem?_cons_succ]at h
  rw[List.eraseIdx_cons_succ]
  exact(List.Perm.swap _ _ _).trans ((wG h).cons _)
end Go.Proofs.YtgoelphibofcmaaGreat.V

namespace Go.Proofs.YtgoelphibofcmaaGreat.V
open Go.RowKit
variable {P:Program} {hs:Nat}
theorem HF {q n i:Nat} {ops:Array Oper} {Q:Exit->Act->World->Prop} {K K':Act->World->Prop} {a:Act} {w:World} (lZ:∀(j:Nat) (o:Oper),ops[j]? =some o->∀c,o.op≠.defer c) (lr:¬LetsOut Q) (hK:∀a w,K a w->K' a w) (h:wpOp P ops Q i K a w):wpOpIn (Fence.wide.inRound q) n P ops Q i K' a w:=by
 unfold wpOp at h
 unfold wpOpIn
 split at h
 ·rename_i ho;simp only[ho];exact hK _ _ h
 ·rename_i o ho
  simp only[ho]
  split at h
  ·rename_i hw
   rw[if_pos hw]
   replace h:=h.resolve_right fun hc=>lr hc.2
   refine⟨fun _ _=>trivial,?_⟩
   rw[Oper.semAt_eq _ _ _ (lZ i o ho)]
   unfold Oper.wp at h
   generalize (execOp a.eval o).run P w=r at *
   cases r with
   |ok m w'=>
    cases m<;>simp only[Oper.upon,Oper.uponIn]at h ⊢
    case value=>exact hK _ _ h
    case skip=>exact hK _ _ h
    case defer=>exact hK _ _ h
    case enter f args=>
     refine⟨fun h=>by simp[Fence.wide]at h,CallsIn.inRound q (callsIn_wide.2 (h.mono fun e KR he=>?_))⟩
     cases e with
     |returned v=>exact hK _ _ he
     |panicked c=>exact he
     |outgrown=>exact he
    case row r args=>exact⟨fun h=>by simp[Fence.wide]at h,fun c cs _=>let ⟨v,KR,h1,s⟩:=h c cs;⟨v,KR,hK _ _ h1,stepsIn_wide.2 s⟩⟩
   |halt x w'=>cases x<;>simp only[Oper.upon,Oper.uponIn]at h ⊢;exact h
  ·rename_i hw
   rw[if_neg hw]
   exact⟨fun _ _=>trivial,hK _ _ h⟩
theorem xi {q n:Nat} {md:Region.Mode} {ops:Array Oper} {Q:Exit->Act->World->Prop} (lZ:∀(j:Nat) (o:Oper),ops[j]? =some o->∀c,o.op≠.defer c) (lr:¬LetsOut Q):∀(fuel:Nat) (listed:Array Bool) (a:Act) (w:World),wpAny P md ops Q fuel listed a w->wpAnyIn (Fence.wide.inRound q) n P md ops Q fuel listed a w
 |0,_,_,_,h=>h
 |fuel+1,listed,_,_,h=>⟨h.1,fun i hi=>HF lZ lr (fun a w=>xi lZ lr fuel _ a w) (h.2 i hi)⟩
def FB:Op->Bool
 | .defer _=>true
 |_=>false
theorem JE {ops:Array Oper} (h:(ops.all fun o=> !FB o.op)=true):∀(j:Nat) (o:Oper),ops[j]? =some o->∀c,o.op≠.defer c:=fun j o hj c hc=>by
 have:=Array.all_eq_true_iff_forall_mem.1 h o (Array.mem_of_getElem? hj)
 rw[hc]at this
 simp[FB]at this
theorem z8 (hm:P.follows .mixedOrders=true) {nt site0 id q n:Nat} {ops:Array Oper} {vl:List bq} (h:rJ P nt site0 ops true false=some vl) (lZ:∀(j:Nat) (o:Oper),ops[j]? =some o->∀c,o.op≠.defer c)
  {K:Env->ar->Prop} {env:Env} {σ:ar} {a:Act} {w:World} {D:Nat->Prop} {ι:Names} {Q:Exit->Act->World->Prop} (hv:wpOps (Sound P) true vl K env σ) (dL:St P hs nt D ι env σ a w)
  (hK:∀iI σ' a' w' D' ι',K iI σ'->Step hs D ι w D' ι' w'->St P hs nt D' ι' iI σ' a' w'->a'.defers=a.defers->Q .normal a' w'):(Code.region id ops true).wpIn (Fence.wide.inRound q) n P Q a w:=by
 have dQ:∃hidden tr,allM (ma P ops nt site0 true false (jz ops) hidden) ops.toList 0=some tr/\vl=tr/\oF ops tr (jz ops)=true:=by
  unfold rJ at h
  simp only[if_true,Bool.not_true,Bool.false_or]at h
  split at h
  ·rename_i tr h'
   split at h
   ·rename_i vR;simp at h;exact⟨_,tr,h',h.symm,vR⟩
   ·cases h
  ·cases h
 obtain⟨hidden,tr,dQ,rfl,vR⟩:=dQ
 obtain⟨rV,T0⟩:=dL.drew
 obtain⟨hlen,_⟩:=oq dQ
 have kP:vl.length=ops.size:=by rw[hlen];simp
 have Dv:=xg (X:=Sound P) (K:=K) (n:=σ.next) vR kP vl 0 (Array.replicate ops.size false) env σ.get (by simp) (by simp) (fun i hi=>by simp[hi]) (by simp[kP]) (fun k i h=>by
  exfalso
  rcases Nat.lt_or_ge k ops.size with hk|hk
  ·simp[hk]at h
  ·simp[Nat.not_lt.2 hk]at h) hv
 rw[kP]at Dv
 have hw:=xS (Q:=fun e a w=>e=.normal/\Q .normal a w) dQ ops.size _ env σ.get a w.drew D ι (fun _=>False) Dv rV.KP rV.used (fun _ h=>h.elim) rV.env rV.size fun jA g1 a1 w1 D1 ι1 U1 hk T S1 TE E1 yw hd=>⟨rfl,hK jA ⟨g1,σ.next+1⟩ a1 w1 D1 ι1 hk (T0.trans T) ⟨S1,TE.next,E1,yw⟩ hd⟩
 have fU:=xi (q:=q) (n:=n) (Q:=fun e a w=>e=.normal/\Q .normal a w) lZ (by rintro⟨_,_,hc,_⟩;cases hc) ops.size _ a w.drew hw
 refine wpIn_mono (wpIn_region_any (id:=id) hm fU) ?_
 rintro e a w ⟨rfl,h⟩
 exact h
end Go.Proofs.YtgoelphibofcmaaGreat.V

namespace Go.Proofs.YtgoelphibofcmaaGreat.V
open Go.RowKit Go.Shelf
attribute [local go_sem] Oper.semAt_some
structure pN (W:World) (v:Value) (l:List ae):Prop where
 sl:∃A c,v=.slice A l.length c/\(l.length<=c/\c<=maxLen)/\(l=[]∨∃b o,A=some ⟨b,o,none⟩/\∀i,i<l.length->W.cell? ⟨b,o+(i*3+0),none⟩=some (.int .i64 (aU l i).bc.eI)/\W.cell? ⟨b,o+(i*3+1),none⟩=some (.int .i64 (aU l i).bc.eF)/\W.cell? ⟨b,o+(i*3+2),none⟩=some (.int .i64 (aU l i).bU))
structure HW (K:World->World->Prop) (v:Value) (l:List ae):Prop where
 refl:∀W,K W W
 trans:∀{A B C:World},K A B->K B C->K A C
 of:∀{W W':World},Below W.heap.size W W'->K W W'
 size:∀{W W':World},K W W'->W.heap.size<=W'.heap.size
 typed:∀{W W':World},K W W'->∀(b:Nat) (cells:Array Value) (T:TypeId) (fr:Nat×Nat),W.heap[b]? =some (Obj.cells cells T fr)->T≠226->T≠246->W'.heap[b]? =W.heap[b]?
 pl:∀{W W':World},K W W'->pN W v l->pN W' v l
theorem uB {W:World} {b x:Nat} {v:Value} (h:W.cell? ⟨b,x,none⟩=some v):b<W.heap.size:=by
 rcases Nat.lt_or_ge b W.heap.size with h1|h1
 ·exact h1
 ·simp[World.cell?,Array.getElem?_eq_none h1]at h
theorem pN.below {W W':World} {v:Value} {l:List ae} (h:pN W v l) (k:Below W.heap.size W W'):pN W' v l:=by
 obtain⟨A,c,rfl,hm,hc⟩:=h.sl
 refine⟨A,c,rfl,hm,?_⟩
 rcases hc with h0|⟨b,o,rfl,km⟩
 ·exact .inl h0
 ·refine .inr ⟨b,o,rfl,fun i hi=>?_⟩
  obtain⟨h1,h2,h3⟩:=km i hi
  have hb:=uB h1
  exact⟨(k.cell (p:=⟨b,_,none⟩) hb).trans h1,(k.cell (p:=⟨b,_,none⟩) hb).trans h2,(k.cell (p:=⟨b,_,none⟩) hb).trans h3⟩
theorem pN.eP {P:Program} {W:World} {v:Value} {l:List ae} (h:pN W v l):jC P W (fun b=>b<W.heap.size) (.sl (l.map aj)) v:=by
 obtain⟨A,c,rfl,hm,hc⟩:=h.sl
 rcases hc with rfl|⟨b,o,rfl,km⟩
 ·exact .AG A c (by simpa using hm.2)
 by_cases Qj:l=[]
 ·subst Qj;exact .AG _ c (by simpa using hm.2)
 ·have lu:0<l.length:=List.length_pos_iff.2 Qj
  have hb:=uB (km 0 lu).1
  refine .sl (l.map aj) b o l.length c 3 (fun i j=>if j=0 then .int .i64 (aU l i).bc.eI else if j=1 then .int .i64 (aU l i).bc.eF else .int .i64 (aU l i).bU) (by simp) hm.1 hm.2 hb (fun cs dr=>?_) (fun cs dr a ha=>?_) (fun i j hi hj=>?_) (fun i j cs a hi hj=>?_)
  ·obtain⟨x,_,rfl⟩:=List.mem_map.1 dr;rfl
  ·obtain⟨x,_,rfl⟩:=List.mem_map.1 dr
   simp[aj]at ha
   rcases ha with rfl|rfl|rfl<;>rfl
  ·obtain⟨h1,h2,h3⟩:=km i hi
   match j,hj with
   |0,_=>exact h1
   |1,_=>exact h2
   |2,_=>exact h3
   |j+3,hj=>omega
  ·have nG:i<l.length:=by have:=(List.getElem?_eq_some_iff.1 hi).1;simpa using this
   rw[gw nG]at hi
   injection hi with hi
   subst hi
   match j,hj with
   |0,hj=>simp[aj]at hj;subst hj;exact .int _ _
   |1,hj=>simp[aj]at hj;subst hj;exact .int _ _
   |2,hj=>simp[aj]at hj;subst hj;exact .int _ _
   |j+3,hj=>simp[aj]at hj
theorem AX {P:Program} (hm:P.follows .mixedOrders=true) {f:Nat} {args:List AV} {vs:Array Value} {w:World} {r:AV} (h:aq P f args r) (hr:∀g r0,gy g 6 r0=some r->r0=r) (hA:fh P w (fun b=>b<w.heap.size) (fun _=>none) args vs):
  Calls P f vs w fun e w'=>∃D ι u,e=.returned u/\dc P w' D ι r u/\Below w.heap.size w w':=by
 have hs:=il hm (h 0) w.heap.size (fun b=>b<w.heap.size) (fun _=>none) w vs ⟨Nat.le_refl _,fun _ h=>h,fun id r h=>(by cases h),fun id kR r r' B B' h=>(by cases h)⟩ (fun id h=>absurd rfl h) hA
 refine hs.mono ?_
 rintro e w' ⟨r0,g',n',D',ι',u,rfl,⟨r',hz,rfl⟩,dL,hsim,_,_,gZ⟩
 have:=hr _ _ hz
 subst this
 exact⟨D',ι',u,rfl,gZ,dL.below⟩
theorem oK {g:Rows} {n:Nat} {a:AV} {k:IntKind} {m:Int} (h:gy g (n+1) a=some (.int k m)):a=.int k m:=by
 cases a<;>rw[gy]at h<;>simp_all
 all_goals (repeat' (split at h))<;>simp_all
theorem Dr {g:Rows} {a:AV} {x y:Int} (h:gy g 6 a=some (.agg [.int .i64 x,.int .i64 y])):a=.agg [.int .i64 x,.int .i64 y]:=by
 cases a with
 |agg cs=>
  rw[zq]at h
  simp only[Option.map_eq_some_iff,AV.agg.injEq,exists_eq_right]at h
  match cs,h with
  |[],h=>rw[cr]at h;simp at h
  |[a],h=>
   rw[bB,cr]at h
   cases ha:gy g 5 a<;>simp[ha]at h
  |[a,b],h=>
   rw[bB,bB,cr]at h
   cases ha:gy g 5 a<;>cases hb:gy g 5 b<;>simp[ha,hb]at h
   obtain⟨rfl,rfl⟩:=h
   rw[oK ha,oK hb]
  |a::b::c::r,h=>
   rw[bB,bB,bB]at h
   cases ha:gy g 5 a<;>cases hb:gy g 5 b<;>cases hc:gy g 5 c<;>cases hd:ew g 5 r<;>simp[ha,hb,hc,hd]at h
 |_=>rw[gy]at h<;>simp_all<;>(repeat' (split at h))<;>simp_all
theorem EB (W:World) (p:ad) (d:Int) (hd:iO d 0 3=true) (hx:iB p.eI) (hy:iB p.eF):Calls Tryz.prog 149 #[.agg #[.int .i64 p.eI,.int .i64 p.eF],.int .i64 d] W fun e W'=>e=.returned (.agg #[.int .i64 (bd p d).eI,.int .i64 (bd p d).eF])/\Below W.heap.size W W':=by
 refine(AX mixed (ED p d hd hx hy) (fun g r0 h=>Dr h) ?_:Calls _ _ _ _ _).mono ?_
 ·exact mj (vs:= #[.int .i64 d]) (.agg _ _ (fun j=>if j=0 then .int .i64 p.eI else .int .i64 p.eF) rfl (fun a ha=>by simp[ab]at ha;rcases ha with rfl|rfl<;>rfl) (fun j hj=>by match j,hj with|0,_=>rfl|1,_=>rfl|j+2,hj=>simp[ab]at hj;omega) (fun j a ha=>by match j,ha with|0,ha=>simp[ab]at ha;subst ha;exact .int _ _|1,ha=>simp[ab]at ha;subst ha;exact .int _ _|j+2,ha=>simp[ab]at ha)) (mj (vs:= #[]) (.int _ _) wM)
 ·rintro e W' ⟨D,ι,u,rfl,hr,hB⟩
  refine⟨?_,hB⟩
  obtain⟨vs,f,rfl,fa,_,h1,h2⟩:=iz hr
  have v0:=h1 0 (by simp[ab])
  have v1:=h1 1 (by simp[ab])
  rw[dp (h2 0 _ rfl)]at v0
  rw[dp (h2 1 _ rfl)]at v1
  obtain⟨vl⟩:=vs
  match vl,fa with
  |[a,b],_=>
   simp at v0 v1
   rw[v0,v1]
theorem xK (W:World) (l:List ae) (v:Value) (hP:pN W v l) (p:ad) (hR:sM l) (Oi:l.length<=1048576):Calls Tryz.prog 265 #[.agg #[v],.agg #[.int .i64 p.eI,.int .i64 p.eF]] W fun e W'=>e=.returned (.int .i64 (eJ l p))/\Below W.heap.size W W':=by
 refine(AX mixed (Ha l p hR Oi) (fun g r0 h=>oK h) ?_:Calls _ _ _ _ _).mono ?_
 ·exact mj (vs:= #[.agg #[.int .i64 p.eI,.int .i64 p.eF]]) (.agg _ _ (fun _=>v) rfl (fun a ha=>by simp at ha;rw[ha];rfl) (fun j hj=>by match j,hj with|0,_=>rfl|j+1,hj=>simp at hj) (fun j a ha=>by match j,ha with|0,ha=>simp at ha;subst ha;exact hP.eP|j+1,ha=>simp at ha)) (mj (vs:= #[]) (.agg _ _ (fun j=>if j=0 then .int .i64 p.eI else .int .i64 p.eF) rfl (fun a ha=>by simp[ab]at ha;rcases ha with rfl|rfl<;>rfl) (fun j hj=>by match j,hj with|0,_=>rfl|1,_=>rfl|j+2,hj=>simp[ab]at hj;omega) (fun j a ha=>by match j,ha with|0,ha=>simp[ab]at ha;subst ha;exact .int _ _|1,ha=>simp[ab]at ha;subst ha;exact .int _ _|j+2,ha=>simp[ab]at ha)) wM)
 ·rintro e W' ⟨D,ι,u,rfl,hr,hB⟩
  exact⟨by rw[dp hr],hB⟩
theorem grown_of {W W':World} (h:Below W.heap.size W W'):W.grownBy W' none:=⟨h.os,h.tape,h.output,h.size,fun k hk _=>h.block k hk⟩
def Cc (l:List ae) (i:Nat) (d:Int):List (Nat×Nat×Int):=if 0<=eJ l (bd (aU l i).bc d)then[(i,(eJ l (bd (aU l i).bc d)).toNat,d)]else[]
def kV (l:List ae) (i m:Nat):List (Nat×Nat×Int):=(List.range m).flatMap fun j:Nat=>Cc l i (1-(j:Int))
def lx (l:List ae) (n:Nat):List (Nat×Nat×Int):=(List.range n).flatMap fun i=>kV l i 2
theorem mh (l:List ae) (n:Nat):lx l (n+1)=lx l n++kV l n 2:=by simp[lx,List.range_succ]
theorem ni (l:List ae) (i m:Nat):kV l i (m+1)=kV l i m++Cc l i (1-(m:Int)):=by simp[kV,List.range_succ]
theorem Ph (l:List ae) {k m:Nat} (hk:k<l.length) (hm:m<=2):lx l k++kV l k m <+:lx l l.length:=by
 have h1:∀d,lx l k <+:lx l (k+d):=fun d=>by
  induction d with
  |zero=>exact List.prefix_refl _
  |succ d ih=>rw[<-Nat.add_assoc,mh l (k+d)];exact ih.trans (List.prefix_append _ _)
 have h2:∀d,lx l (k+1) <+:lx l (k+1+d):=fun d=>by
  induction d with
  |zero=>exact List.prefix_refl _
  |succ d ih=>rw[<-Nat.add_assoc,mh l (k+1+d)];exact ih.trans (List.prefix_append _ _)
 have h3:=h2 (l.length-(k+1))
 rw[show k+1+(l.length-(k+1))=l.length by omega,mh]at h3
 refine List.IsPrefix.trans ?_ h3
 have h4:kV l k m <+:kV l k 2:=by
  have:m=0∨m=1∨m=2:=by omega
  rcases this with rfl|rfl|rfl
  ·exact List.nil_prefix
  ·rw[ni l k 1];exact List.prefix_append _ _
  ·exact List.prefix_refl _
 exact(List.prefix_append_right_inj _).2 h4
def QF (l:List ae) (x:Nat×Nat×Int):Prop:=x.1<l.length/\x.2.1<l.length/\(0<=x.2.2/\x.2.2<=1)
def Fc (x:Nat×Nat×Int):Array Value:= #[.agg #[.int .i64 (x.1:Int),.int .i64 (x.2.1:Int)],.int .i64 x.2.2]
theorem LU (l:List ae) (p:ad) (h:0<l.length:=by omega):eJ l p<(l.length:Int):=by
 unfold eJ
 split<;>omega
theorem R7 (l:List ae) (hA:ki l) (q Ba:Nat) (vS:Value) (K:World->World->Prop) (kl:HW K vS l) (J Jx:List (Nat×Nat×Int)->World->Prop) (n:Nat) (hn:1<=n)
  (hY:∀pre x W,J pre W->pre.length<(lx l l.length).length->QF l x->YieldAt Fence.wide (n-1) Tryz.prog q (Fc x) W fun e W'=>
   (e=.returned (.bool true)/\J (pre++[x]) W'/\K W W')∨(e=.returned (.bool false)/\Jx (pre++[x]) W'))
  (W:World) (hJ:AbidesFrom W.heap.size J) (Om:W.heap[Ba]? =some (.cells #[vS] 41 (0,0))) (hP:pN W vS l) (h0:J [] W):
  CallsIn Fence.wide n Tryz.prog 264 #[.func (.yield q) #[] #[],.pointer (some ⟨Ba,0,none⟩)] W fun e W'=>(∃v,e=.returned v)/\
   ((∃ys,ys=lx l l.length/\J ys W')∨(∃pre,pre <+:lx l l.length/\Jx pre W')):=by
 obtain⟨A,cp,rfl,_,_⟩:=hP.sl
 refine callsIn_of_wp Tryz.func264 rfl trivial ?_ rfl
 simp only[Tryz.ntmps264,List.size_toArray,List.length_cons,List.length_nil,Nat.reduceAdd,Nat.reduceSub,Array.replicate_succ,Array.replicate_zero,List.push_toArray,List.append_toArray,List.nil_append,List.cons_append]
 have jG:W.cell? ⟨Ba,0,none⟩=some (.slice A l.length cp):=by simp[World.cell?,Om]
 gi_wp2
 gi_loopw [11] (fun i wr=>∃k:Nat,k<=l.length/\i=.int .i64 k/\J (lx l k) wr/\K W wr)
  (fun i _=>l.length-(intOf i).toNat)
 case atStart=>exact⟨0,Nat.zero_le _,rfl,h0,kl.refl _⟩
 case round=>
  obtain⟨k,hk,rfl,Q0,hKt⟩:=hrel
  by_cases dR:k<l.length
  ·have dr:∃b o,A=some ⟨b,o,none⟩/\wr.cell? ⟨b,o+k*3,none⟩=some (.int .i64 (aU l k).bc.eI)/\wr.cell? ⟨b,o+k*3+1,none⟩=some (.int .i64 (aU l k).bc.eF)/\wr.cell? ⟨b,o+k*3+2,none⟩=some (.int .i64 (aU l k).bU):=by
    obtain⟨A',c',hv,_,hc⟩:=(kl.pl hKt hP).sl
    cases hv
    rcases hc with rfl|⟨b,o,rfl,km⟩
    ·simp at dR
    ·obtain⟨h1,h2,h3⟩:=km k dR
     exact⟨b,o,rfl,by simpa using h1,by rw[Nat.add_assoc];exact h2,by rw[Nat.add_assoc];exact h3⟩
   obtain⟨b,o,rfl,hx,Tr,ht⟩:=dr
   gi_wp2
   obtain⟨W2,Q7⟩:∃W2,(wr.alloc (.cells #[.int .i64 (aU l k).bc.eI,.int .i64 (aU l k).bc.eF,.int .i64 (aU l k).bU] 137)).alloc (.cells #[.int .i64 1,.int .i64 0] 2)=W2:=⟨_,rfl⟩
   have pR:Below wr.heap.size wr W2:=by rw[<-Q7];exact((Below.refl _ wr).alloc (Nat.le_refl _) _).alloc (by simp) _
   have Ub:W2.heap[wr.heap.size]? =some (.cells #[.int .i64 (aU l k).bc.eI,.int .i64 (aU l k).bc.eF,.int .i64 (aU l k).bU] 137 (0,0)):=by
    rw[<-Q7,Below.heap_alloc _ _ _ (by simp)];exact World.alloc_heap_new _ _
   have Ua:W2.heap[wr.heap.size+1]? =some (.cells #[.int .i64 1,.int .i64 0] 2 (0,0)):=by
    have:=World.alloc_heap_new (wr.alloc (.cells #[.int .i64 (aU l k).bc.eI,.int .i64 (aU l k).bc.eF,.int .i64 (aU l k).bU] 137)) (.cells #[.int .i64 1,.int .i64 0] 2)
    rw[World.size_alloc]at this
    rw[<-Q7];exact this
   have Q1:K W W2:=kl.trans hKt (kl.of pR)
   have Ue:J (lx l k++kV l k 0) W2:=by
    have:=hJ _ _ _ none Q0 (grown_of pR) (fun r h=>by cases h)
    simpa[kV]using this
   rw[Q7]
   clear Q7
   generalize wr=w1 at *
   gi_loopw [18] (fun j wr=>∃m:Nat,m<=2/\j=.int .i64 m/\J (lx l k++kV l k m) wr/\K W2 wr)
    (fun j _=>2-(intOf j).toNat)
   case atStart=>exact⟨0,by omega,rfl,Ue,kl.refl _⟩
   case round=>
    obtain⟨m,hm,rfl,hJm,Nb⟩:=hrel
    have UQ:m=0∨m=1∨m=2:=by omega
    by_cases Nl:m<2
    ·have hkd:=kl.typed Nb _ _ _ _ Ua (by decide) (by decide)
     have Lw:=kl.typed Nb _ _ _ _ Ub (by decide) (by decide)
     have hka:=kl.typed (kl.trans Q1 Nb) _ _ _ _ Om (by decide) (by decide)
     have cd:wr.cell? ⟨w1.heap.size+1,m,none⟩=some (.int .i64 (1-(m:Int))):=by
      rw[World.cell?_of_block hkd]
      rcases UQ with rfl|rfl|rfl
      ·simp[World.cell?,Ua]
      ·simp[World.cell?,Ua]
      ·omega
     have ct0:wr.cell? ⟨w1.heap.size,0,none⟩=some (.int .i64 (aU l k).bc.eI):=by rw[World.cell?_of_block Lw];simp[World.cell?,Ub]
     have ct1:wr.cell? ⟨w1.heap.size,1,none⟩=some (.int .i64 (aU l k).bc.eF):=by rw[World.cell?_of_block Lw];simp[World.cell?,Ub]
     have ca:wr.cell? ⟨Ba,0,none⟩=some (.slice (some ⟨b,o,none⟩) l.length cp):=by rw[World.cell?_of_block hka];simp[World.cell?,Om]
     have hPw:pN wr (.slice (some ⟨b,o,none⟩) l.length cp) l:=kl.pl (kl.trans Q1 Nb) hP
     have hba:Ba<wr.heap.size:=by
      have h1:=(Array.getElem?_eq_some_iff.1 Om).1
      have h2:=kl.size (kl.trans Q1 Nb)
      omega
     have hdm:iO (1-(m:Int)) 0 3=true:=jL (by omega)
     have Nn:=te (hA.pt dR)
     have Qs:=fun w0=>EB w0 (aU l k).bc (1-(m:Int)) hdm Nn.1 Nn.2
     have hPd:pN wr.drew (.slice (some ⟨b,o,none⟩) l.length cp) l:=hPw.below ⟨rfl,rfl,rfl,Nat.le_refl _,fun _ _=>rfl⟩
     have cad:wr.drew.cell? ⟨Ba,0,none⟩=some (.slice (some ⟨b,o,none⟩) l.length cp):=ca
     have ctd0:wr.drew.cell? ⟨w1.heap.size,0,none⟩=some (.int .i64 (aU l k).bc.eI):=ct0
     have ctd1:wr.drew.cell? ⟨w1.heap.size,1,none⟩=some (.int .i64 (aU l k).bc.eF):=ct1
     have hfw:=hA.Bd
     have Ru:=hA.NB
     have UR:=mixed
     gi_wp2
     gi_region_with_o (first|(refine⟨trivial,?_⟩;gi_at_call 149;refine(callsIn_wide.2 (Qs _)).mono ?_;rintro e w3 ⟨rfl,Br⟩;have ca3:=(Br.cell (p:=⟨Ba,0,none⟩) hba).trans cad)|(refine⟨trivial,?_⟩;gi_at_call 265;refine(callsIn_wide.2 (xK _ l _ (hPd.below Br) (bd (aU l k).bc (1-(m:Int))) Ru (by omega))).mono ?_;rintro e w4 ⟨rfl,hB4⟩))
     all_goals
      have Ol:Below wr.heap.size wr w4:=(show Below wr.heap.size wr wr.drew from⟨rfl,rfl,rfl,Nat.le_refl _,fun _ _=>rfl⟩).trans (Br.trans (hB4.mono Br.size))
      have hJ4:J (lx l k++kV l k m) w4:=hJ _ _ _ none hJm (grown_of Ol) (fun r h=>by cases h)
      have uo:=Ph l dR (m:=m+1) (by omega)
      rw[ni,<-List.append_assoc]at uo
      have pj:=ni l k m
      have hw:wrap64 ((m:Int)+1)=((m+1:Nat):Int):=by unfold wrap64;omega
      by_cases zA:0<=eJ l (bd (aU l k).bc (1-(m:Int)))
      ·have fU:((eJ l (bd (aU l k).bc (1-(m:Int)))).toNat:Int)=eJ l (bd (aU l k).bc (1-(m:Int))):=by omega
       rw[Cc,if_pos zA]at uo pj
       obtain⟨fn,tmps,assign,body,hy,hR⟩:=hY _ (k,(eJ l (bd (aU l k).bc (1-(m:Int)))).toNat,1-(m:Int)) w4 hJ4 (by
        have:=uo.length_le
        simp only[List.length_append,List.length_cons,List.length_nil]at this ⊢
        omega) ⟨dR,by
        have:eJ l (bd (aU l k).bc (1-(m:Int)))<(l.length:Int):=LU _ _
        show(eJ l (bd (aU l k).bc (1-(m:Int)))).toNat<l.length
        omega,by show 0<=1-(m:Int);omega,by show 1-(m:Int)<=1;omega⟩
       simp only[Fc,fU]at hy
       gi_wp2
       refine hR.mono ?_
       rintro e W3 (⟨rfl,hJ3,OK⟩|⟨rfl,hJx3⟩)
       ·gi_wp2
        go_roundw
        case rel=>exact⟨m+1,by omega,by simp,by rw[pj,<-List.append_assoc];exact hJ3,kl.trans (kl.trans Nb (kl.of Ol)) OK⟩
        case measure=>simp[intOf];omega
       ·gi_wp2
        refine bodyPost_ret (results_none rfl _ _ _) rfl ?_
        exact⟨⟨_,rfl⟩,.inr ⟨_,uo,hJx3⟩⟩
      ·rw[Cc,if_neg zA,List.append_nil]at pj
       gi_wp2
       refine⟨fun _ h=>(by cases h),?_⟩
       gi_wp2
       go_roundw
       case rel=>exact⟨m+1,by omega,by simp,by rw[pj];exact hJ4,kl.trans Nb (kl.of Ol)⟩
       case measure=>simp[intOf];omega
    ·obtain rfl:m=2:=by omega
     have hfw:=hA.Bd
     gi_wp2
     go_roundw
     case rel=>exact⟨k+1,by omega,by simp,by rw[mh];exact hJm,kl.trans Q1 Nb⟩
     case measure=>simp[intOf];omega
  ·obtain rfl:k=l.length:=by omega
   gi_wp2
   go_end0
   exact⟨⟨_,rfl⟩,.inl ⟨_,rfl,Q0⟩⟩
theorem zU (n:Nat) (vS:Value) (w:World):CallsIn Fence.wide n Tryz.prog 244 #[.agg #[vS]] w fun e w'=>e=.returned (.func (.func 264) #[] #[.pointer (some ⟨w.heap.size,0,none⟩)])/\w'=w.alloc (.cells #[vS] 41):=by
 refine callsIn_of_wp Tryz.func244 rfl trivial ?_ rfl
 simp only[Tryz.ntmps244,List.size_toArray,List.length_cons,List.length_nil,Nat.reduceAdd,Nat.reduceSub,Array.replicate_succ,Array.replicate_zero,List.push_toArray,List.append_toArray,List.nil_append,List.cons_append]
 gi_wp2
 go_ret
 exact⟨rfl,rfl⟩
abbrev NK (l:List ae):Type:={x:Nat×Nat×Int // QF l x}
theorem JC (l:List ae) (hA:ki l) (Ba n:Nat) (hn:1<=n) (vS:Value) (K:World->World->Prop) (kl:HW K vS l) (w:World) (Om:w.heap[Ba]? =some (.cells #[vS] 41 (0,0))) (hP:pN w vS l):
  SeqStopsK Fence.wide n Tryz.prog 264 #[.pointer (some ⟨Ba,0,none⟩)] (fun x:NK l=>Fc x.1) K (fun ys=>ys.map (·.1)=lx l l.length) (fun _=>True) (lx l l.length).length w:=fun q J Jx W hW hJ _ hY h0=>by
 refine(R7 l hA q Ba vS K kl (fun ys W=>∃zs:List (NK l),zs.map (·.1)=ys/\J zs W) (fun ys W=>∃zs:List (NK l),zs.map (·.1)=ys/\Jx zs W) n hn (fun pre x W1 Ud dR vR=>?_) W (fun s A B row ⟨zs,e,h⟩ hg hr=>⟨zs,e,hJ zs A B row h hg hr⟩) ((hW.block Ba (Array.getElem?_eq_some_iff.1 Om).1).trans Om) (hP.below hW) ⟨[],rfl,h0⟩).mono ?_
 ·obtain⟨zs,rfl,h1⟩:=Ud
  refine YieldAt.mono (hY zs ⟨x,vR⟩ W1 h1 (by simpa using dR)) ?_
  rintro e W' (⟨h2,h3,h4⟩|⟨h2,h3⟩)
  ·exact .inl ⟨h2,⟨zs++[⟨x,vR⟩],by simp,h3⟩,h4⟩
  ·exact .inr ⟨h2,⟨zs++[⟨x,vR⟩],by simp,h3⟩⟩
 ·rintro e W' ⟨h1,⟨ys,rfl,zs,h2,h3⟩|⟨pre,_,zs,h2,h3⟩⟩
  ·exact⟨h1,.inl ⟨zs,h2,h3⟩⟩
  ·exact⟨h1,.inr ⟨zs,trivial,h3⟩⟩
def zf (s:au) (l:List ae) (x:Nat×Nat×Int):List PB:=if 0<gS s (aU l x.1).bU x.2.2 (aU l x.2.1).bU then[⟨x.1,x.2.1,gS s (aU l x.1).bU x.2.2 (aU l x.2.1).bU⟩]else[]
theorem Im (s:au) (l:List ae):cY s l=(lx l l.length).flatMap (zf s l):=by
 have h1:∀i d,mM s l i d=(Cc l i d).flatMap (zf s l):=fun i d=>by
  unfold mM Cc
  by_cases h:0<=eJ l (bd (aU l i).bc d)
  ·rw[if_pos h]
   simp only[List.flatMap_cons,List.flatMap_nil,List.append_nil,zf]
   by_cases h2:0<gS s (aU l i).bU d (aU l (eJ l (bd (aU l i).bc d)).toNat).bU
   ·rw[if_pos ⟨h,h2⟩,if_pos h2]
   ·rw[if_neg fun hc=>h2 hc.2,if_neg h2]
  ·rw[if_neg h,if_neg fun hc=>h hc.1];rfl
 unfold cY gL lx
 rw[List.flatMap_assoc]
 congr 1
 funext i
 unfold gm kV
 rw[List.flatMap_assoc]
 congr 1
 funext j
 exact h1 i _
section
variable {F:Fence} {n:Nat} {P:Program} {ops:Array Oper} {Q:Exit->Act->World->Prop} {rest:List Oper} {a:Act} {w:World} {o:Oper}
theorem EU (hg:o.guard=none) (m:Operand) (t:TypeId) (dK:o.op=Op.range t m) {v:Value} {w':World} (gE:(Instr.range t (a.eval m)).run P w=.ok v w') (h:wpListIn F n P ops Q rest (a.put o.dst v) w'):wpListIn F n P ops Q (o::rest) a w:=by
 refine wpListIn_plain hg fun K' SN=>?_
 unfold Oper.wpIn
 refine⟨by simp[Oper.about,dK],?_⟩
 rw[Oper.semAt_plain F _ _ (by rw[dK];intro c kg;cases kg)]
 simp[execOp,dK,gE,Result.andThen]
 exact SN _ _ h
theorem HE (hg:o.guard=none) (it:Operand) (dK:o.op=Op.next it false) (rr b clock:Nat) (seen:Array Nat) (es:Array MapEntry) (Qh:a.eval it=.pointer (some ⟨rr,0,none⟩)) (hr:w.heap[rr]? =some (.mapIter (some b) clock seen clock)) (hb:w.heap[b]? =some (.map es clock)) (dL:F3 es clock)
  (QX:(leftOf es seen).toList=[]->wpListIn F n P ops Q rest (a.put o.dst (.tuple #[.bool false])) w)
  (Q3:∀e∈(leftOf es seen).toList,∀w',w'.heap[rr]? =some (.mapIter (some b) clock (seen.push e.born) clock)->w'.heap[b]? =some (.map es clock)->w.grownBy w' (some rr)->w'.heap.size=w.heap.size->(Instr.entry (.pointer (some ⟨rr,0,none⟩))).run P w'=.ok (.tuple #[e.key,e.val]) w'->wpListIn F n P ops Q rest (a.put o.dst (.tuple #[.bool true,e.key,e.val])) w'):
  wpListIn F n P ops Q (o::rest) a w:=by
 refine wpListIn_plain hg fun K' SN=>?_
 unfold Oper.wpIn
 refine⟨by simp[Oper.about,dK],?_⟩
 rw[Oper.semAt_plain F _ _ (by rw[dK];intro c kg;cases kg)]
 rcases run_next_at (P:=P) w o.type rr b clock clock seen es clock hr hb dL.1 (Nat.le_refl _)with⟨h0,gE⟩|⟨e,he,w1,oP,gE⟩
 ·simp[execOp,dK,Qh,gE,Result.andThen]
  exact SN _ _ (QX (List.eq_nil_of_length_eq_zero (by simpa using h0)))
 ·have LH:w1.heap[rr]? =some (.mapIter (some b) clock seen clock):=by rcases oP with rfl|rfl<;>exact hr
  have dS:=MapKept.heap_set (o':=.mapIter (some b) clock (seen.push e.born) clock) LH
  obtain⟨w2,vV⟩:∃w2,ChangeMaps.setBlock w1 rr (.mapIter (some b) clock (seen.push e.born) clock)=w2:=⟨_,rfl⟩
  have ho:∀k,k≠rr->w2.heap[k]? =w.heap[k]? :=fun k hk=>by
   rw[<-vV]
   refine(dS.2 k hk).trans ?_
   rcases oP with rfl|rfl<;>rfl
  have hz:w2.heap.size=w.heap.size:=by
   rw[<-vV]
   rcases oP with rfl|rfl<;>simp[ChangeMaps.setBlock]
  have AA:w2.heap[rr]? =some (.mapIter (some b) clock (seen.push e.born) clock):=by rw[<-vV];exact dS.1
  have BB:w2.os=w.os/\w2.tape=w.tape/\w2.output=w.output:=by
   rw[<-vV]
   rcases oP with rfl|rfl<;>exact⟨rfl,rfl,rfl⟩
  have Uv:b≠rr:=fun e=>by subst e;rw[hr]at hb;cases hb
  have Bt:w2.heap[b]? =some (.map es clock):=(ho b Uv).trans hb
  have DG:=run_entry_at (P:=P) w2 rr b clock seen es clock e AA Bt (mem_left he).1 dL.2
  rw[vV]at gE
  simp[execOp,dK,Qh,gE,Result.andThen]
  exact SN _ _ (Q3 e he w2 AA Bt ⟨BB.1,BB.2.1,BB.2.2,by omega,fun k _ hk=>ho k fun e=>hk (by rw[e])⟩ hz DG)
end
def rN (p:ad):Value:=.agg #[.int .i64 p.eI,.int .i64 p.eF]
def Eb (es:Array MapEntry) (rr:Nat) (w:World):Nat:=match w.heap[rr]? with
 |some (.mapIter _ _ seen _)=>(leftOf es seen).size
 |_=>0
theorem yG {es:Array MapEntry} {rr b clock:Nat} {seen:Array Nat} {w:World} (h:w.heap[rr]? =some (.mapIter (some b) clock seen clock)):Eb es rr w=(leftOf es seen).size:=by unfold Eb;rw[h]
theorem GY {es:Array MapEntry} {clock:Nat} {seen:Array Nat} {e:MapEntry} (hs:F3 es clock) (he:e∈(leftOf es seen).toList):((e.key::(leftOf es (seen.push e.born)).toList.map (·.key)).Perm ((leftOf es seen).toList.map (·.key)))/\(leftOf es (seen.push e.born)).size+1=(leftOf es seen).size:=by
 obtain⟨i,hi,GA⟩:=List.getElem_of_mem he
 have h2:=Ec hs (i:=i) (e:=e) (seen:=seen) (by rw[List.getElem?_eq_getElem hi,GA])
 have hp:=wG (l:=(leftOf es seen).toList) (i:=i) (x:=e) (by rw[List.getElem?_eq_getElem hi,GA])
 rw[h2]
 refine⟨by simpa using hp.map fun e:MapEntry=>e.key,?_⟩
 have h3:=congrArg List.length h2
 have h4:=hp.length_eq
 simp only[Array.length_toList,List.length_cons]at h3 h4
 rw[<-h3]at h4;exact h4
theorem Gn {a b:List ad} (h:(a.map rN).Perm (b.map rN)):a.Perm b:=by
 have h2:=h.map (fun v:Value=>match v with| .agg ⟨[.int _ x,.int _ y]⟩=>(⟨x,y⟩:ad)|_=>⟨0,0⟩)
 simpa[List.map_map,Function.comp_def,rN]using h2
theorem Jh (q Bm b:Nat) (es:Array MapEntry) (clock:Nat) (dL:F3 es clock) (ks:List ad) (hk:es.toList.map (·.key)=ks.map rN) (J Jx:List ad->World->Prop) (n:Nat) (hn:1<=n)
  (hY:∀pre x W,J pre W->pre.length<ks.length->YieldAt Fence.wide (n-1) Tryz.prog q #[rN x] W fun e W'=>
   (e=.returned (.bool true)/\J (pre++[x]) W'/\KeepsWalks W W')∨(e=.returned (.bool false)/\Jx (pre++[x]) W'))
  (W:World) (hJ:AbidesFrom W.heap.size J) (hm:W.cell? ⟨Bm,0,none⟩=some (.map (some b))) (hb:W.heap[b]? =some (.map es clock)) (h0:J [] W):
  CallsIn Fence.wide n Tryz.prog 176 #[.func (.yield q) #[] #[],.pointer (some ⟨Bm,0,none⟩)] W fun e W'=>(∃v,e=.returned v)/\
   ((∃ss:List ad,ss.Perm ks/\J ss W')∨(∃pre,Jx pre W')):=by
 refine callsIn_of_wp Tryz.func176 rfl trivial ?_ rfl
 simp only[Tryz.ntmps176,List.size_toArray,List.length_cons,List.length_nil,Nat.reduceAdd,Nat.reduceSub,Array.replicate_succ,Array.replicate_zero,List.push_toArray,List.append_toArray,List.nil_append,List.cons_append]
 have hrg:=fun(wx:World) (h:wx.heap[b]? =some (.map es clock))=>run_range_map (P:=Tryz.prog) wx 108 _ _ b es clock Tryz.underlying108 h
 gi_wp2_with (first
  |(refine EU rfl _ _ rfl (hrg _ hb) ?_)
  |gi_in)
 have nQ:b<W.heap.size:=(Array.getElem?_eq_some_iff.1 hb).1
 have Ud:J [] (W.alloc (.mapIter (some b) clock #[] clock)):=hJ _ _ _ none h0 (grown_of ((Below.refl _ W).alloc (Nat.le_refl _) _)) (fun r h=>by cases h)
 have LH:(W.alloc (.mapIter (some b) clock #[] clock)).heap[W.heap.size]? =some (.mapIter (some b) clock #[] clock):=World.alloc_heap_new _ _
 have HJ:(W.alloc (.mapIter (some b) clock #[] clock)).heap[b]? =some (.map es clock):=(Below.heap_alloc _ _ _ nQ).trans hb
 go_frame
 gi_loopw [3] (fun _ wr=>∃(seen:Array Nat) (ss:List ad),wr.heap[W.heap.size]? =some (.mapIter (some b) clock seen clock)/\wr.heap[b]? =some (.map es clock)/\(ss.map rN++(leftOf es seen).toList.map (·.key)).Perm (ks.map rN)/\J ss wr)
  (fun _ wr=>Eb es W.heap.size wr)
 case atStart=>
  exact⟨#[],[],LH,HJ,by rw[<-hk,show(leftOf es #[]).toList=es.toList by simp[leftOf]];exact List.Perm.refl _,Ud⟩
 case round=>
  obtain⟨seen,ss,hr,Uv,hp,Q0⟩:=hrel
  gi_wp2_with (first
   |(refine HE rfl _ rfl W.heap.size b clock seen es rfl hr Uv dL ?_ ?_)
   |gi_in)
  ·intro Qj
   gi_wp2
   go_end0
   rw[Qj]at hp
   exact⟨⟨_,rfl⟩,.inl ⟨ss,Gn (by simpa using hp),Q0⟩⟩
  ·intro e he0 w2 AA Bt OC kz DG
   have he:e∈(leftOf es seen).toList:=by simpa using he0
   obtain⟨BD,dR⟩:=GY dL he
   obtain⟨x,hx⟩:∃x,e.key=rN x:=by
    have h1:e.key∈es.toList.map (·.key):=List.mem_map_of_mem (mem_left he).1
    rw[hk]at h1
    obtain⟨x,_,hx⟩:=List.mem_map.1 h1
    exact⟨x,hx.symm⟩
   have Ue:J ss w2:=hJ ss wr w2 (some W.heap.size) Q0 OC (fun r e=>by cases e;exact⟨Nat.le_refl _,_,hr,rfl⟩)
   have hlen:ss.length<ks.length:=by
    have h1:=hp.length_eq
    have h2:0<(leftOf es seen).toList.length:=List.length_pos_of_mem he
    simp only[List.length_append,List.length_map]at h1
    omega
   obtain⟨fn,tmps,assign,body,hy,hR⟩:=hY ss x (w2.alloc (.cells #[.int .i64 x.eI,.int .i64 x.eF] 50)) (hJ _ _ _ none Ue (grown_of ((Below.refl _ w2).alloc (Nat.le_refl _) _)) (fun r h=>by cases h)) hlen
   rw[hx]at DG ⊢
   simp only[rN]at DG hy ⊢
   gi_wp2
   refine hR.mono ?_
   rintro e3 W3 (⟨rfl,hJ3,OK⟩|⟨rfl,hJx3⟩)
   ·gi_wp2
    have IM:=KeepsWalks.alloc w2 (.cells #[.int .i64 x.eI,.int .i64 x.eF] 50)
    have hr3:=OK.same _ _ (IM.same _ _ AA rfl) rfl
    have hb3:=OK.same _ _ (IM.same _ _ Bt rfl) rfl
    go_roundw
    case rel=>
     refine⟨_,ss++[x],hr3,hb3,?_,hJ3⟩
     rw[List.map_append,List.append_assoc]
     refine List.Perm.trans ?_ hp
     rw[hx]at BD
     exact BD.append_left _
    case measure=>rw[yG hr3,yG hr];omega
   ·gi_wp2
    refine bodyPost_ret (results_none rfl _ _ _) rfl ?_
    exact⟨⟨_,rfl⟩,.inr ⟨_,hJx3⟩⟩
theorem D5 (Bm b:Nat) (es:Array MapEntry) (clock:Nat) (dL:F3 es clock) (ks:List ad) (hk:es.toList.map (·.key)=ks.map rN) (n:Nat) (hn:1<=n) (w:World) (TY:Bm<w.heap.size) (hm:w.cell? ⟨Bm,0,none⟩=some (.map (some b))) (hb:w.heap[b]? =some (.map es clock)):
  SeqStopsK Fence.wide n Tryz.prog 176 #[.pointer (some ⟨Bm,0,none⟩)] (fun x:ad=> #[rN x]) KeepsWalks (fun ss=>ss.Perm ks) (fun _=>True) ks.length w:=fun q J Jx W hW hJ _ hY h0=>by
 refine(Jh q Bm b es clock dL ks hk J Jx n hn hY W hJ ((hW.cell (p:=⟨Bm,0,none⟩) TY).trans hm) ((hW.block b (Array.getElem?_eq_some_iff.1 hb).1).trans hb) h0).mono ?_
 rintro e W' ⟨h1,⟨ss,h2,h3⟩|⟨pre,h3⟩⟩
 ·exact⟨h1,.inl ⟨ss,h2,h3⟩⟩
 ·exact⟨h1,.inr ⟨pre,trivial,h3⟩⟩
def Nz (ps:List ad):List Value:=ps.flatMap fun p=>[.int .i64 p.eI,.int .i64 p.eF]
theorem JO (ps:List ad) (p:ad):Nz (ps++[p])=Nz ps++[.int .i64 p.eI,.int .i64 p.eF]:=by simp[Nz]
theorem Mr {ps:List ad} {i j:Nat} {p:ad} (h:ps[i]? =some p) (hj:j<2):(Nz ps)[i*2+j]? =([.int .i64 p.eI,.int .i64 p.eF]:List Value)[j]? :=by
 induction ps generalizing i with
 |nil=>simp at h
 |cons q r ih=>
  cases i with
  |zero=>
   simp at h;subst h
   match j,hj with
   |0,_=>rfl
   |1,_=>rfl
  |succ i=>
   simp only[List.getElem?_cons_succ]at h
   have:=ih h
   have e:(i+1)*2+j=i*2+j+2:=by omega
   rw[e]
   simpa[Nz]using this
theorem cell_two_new (W:World) (T:TypeId) (x y:Value):∀(j:Nat) (u:Value),[x,y][j]? =some u->(W.alloc (.cells #[x,y] T)).cell? ((⟨W.heap.size,0,none⟩:Addr).add j)=some u:=fun j u h=>by
 have hb:(W.alloc (.cells #[x,y] T)).heap[W.heap.size]? =some (.cells #[x,y] T (0,0)):=World.alloc_heap_new _ _
 have e:∀k,(W.alloc (.cells #[x,y] T)).cell? ⟨W.heap.size,k,none⟩=(#[x,y]:Array Value)[k]? :=fun k=>by
  unfold World.cell?
  rw[show(W.alloc (.cells #[x,y] T)).heap[(⟨W.heap.size,k,none⟩:Addr).block]? = _ from hb]
  rfl
 rw[show(⟨W.heap.size,0,none⟩:Addr).add j=⟨W.heap.size,j,none⟩ by simp[Addr.add];exact fun h=>h.symm,e]
 simpa using h
theorem O9:(Tryz.prog.info? 50).map (fun i=>(i.zero,i.size,i.bytes))=some (some (.agg #[.int .i64 0,.int .i64 0]),2,16):=by kernel_rfl
theorem Gy {β:Type} (B:Nat) (c:Array Value) (t:TypeId) (fr:Nat×Nat):Own (fun(_:β) W=>W.heap[B]? =some (.cells c t fr)):=fun _ X _ row h hg hr=>(hg.block B (Array.getElem?_eq_some_iff.1 h).1 (fun e=>by
 obtain⟨o,ho,hc⟩:=hr B e.symm
 rw[h]at ho;cases ho;cases hc)).trans h
theorem za (Bm b:Nat) (es:Array MapEntry) (clock:Nat) (dL:F3 es clock) (ks:List ad) (hk:es.toList.map (·.key)=ks.map rN) (hl:ks.length<=1000000) (w:World) (TY:Bm<w.heap.size) (hm:w.cell? ⟨Bm,0,none⟩=some (.map (some b))) (hb:w.heap[b]? =some (.map es clock)):
  CallsIn Fence.wide 5 Tryz.prog 205 #[.slice none 0 0,.func (.func 176) #[] #[.pointer (some ⟨Bm,0,none⟩)]] w fun e W'=>∃(ss:List ad) (v:Value),ss.Perm ks/\e=.returned v/\W'.ownsRow w.heap.size 50 2 v ss.length (Nz ss)/\(v=.slice none 0 0↔ss=[])/\Below w.heap.size w W':=by
 obtain⟨i0,hi,Fx,yw,kz⟩:=info_parts O9
 refine callsIn_of_wp_marks Tryz.func205 rfl trivial ?_ rfl
 simp only[Tryz.ntmps205,List.size_toArray,List.length_cons,List.length_nil,Nat.reduceAdd,Nat.reduceSub,Array.replicate_succ,Array.replicate_zero,List.push_toArray,List.append_toArray,List.nil_append,List.cons_append]
 gi_wp2
 have bO:=Boxed.new w 100 (.slice none 0 0)
 have xj:Below w.heap.size w (w.alloc (.cells #[.slice none 0 0] 100)):=(Below.refl _ w).alloc (Nat.le_refl _) _
 have fa:(w.alloc (.cells #[.slice none 0 0] 100)).heap.size=w.heap.size+1:=by simp
 obtain⟨W0,Q6⟩:∃W0,w.alloc (.cells #[.slice none 0 0] 100)=W0:=⟨_,rfl⟩
 rw[Q6]at bO xj fa ⊢
 clear Q6
 have UQ:W0.cell? ⟨Bm,0,none⟩=some (.map (some b)):=(xj.cell (p:=⟨Bm,0,none⟩) TY).trans hm
 have Dz:=(xj.block b (Array.getElem?_eq_some_iff.1 hb).1).trans hb
 refine wpIn_rangeFunc_ownH (n:=5) rfl (by omega) (gf:=176) (lb:= #[.pointer (some ⟨Bm,0,none⟩)]) rfl trivial (enters_of Tryz.func176 (by kernel_rfl) rfl)
  (D5 Bm b es clock dL ks hk (5-1) (by omega) W0 (by omega) UQ Dz) walksK_t (walksK_b (w:=W0)) (Below.refl _ _) (fun _=>rfl)
  (fun pre W=>(∃v,Boxed W w.heap.size 100 v/\W.ownsRow w.heap.size 50 2 v pre.length (Nz pre)/\(v=.slice none 0 0↔pre=[]))/\Below w.heap.size w W)
  (fun _ _ _=>False)
  (OwnFrom.and (Own.from (holdsRow_own w.heap.size w.heap.size 100 50 2 (fun pre=>pre.length) (fun pre=>Nz pre) (fun pre v=>v=.slice none 0 0↔pre=[])) _) (ownFrom_below (Nat.le_refl _) (by omega)))
  (fun _ _ _ _ _ hs _ _=>hs)
  ⟨⟨_,bO,World.ownsRow_nil _ _ _ _,by simp⟩,xj⟩
  (fun x a' W=>∃Bx,w.heap.size<Bx/\W.heap[Bx]? =some (.cells #[.int .i64 x.eI,.int .i64 x.eF] 50 (0,0))/\a'={tmps:= #[.slice none 0 0,.func (.func 176) #[] #[.pointer (some ⟨Bm,0,none⟩)],.pointer (some ⟨w.heap.size,0,none⟩),undef,.slice none 0 0,.pointer (some ⟨Bx,0,none⟩),.func (.func 176) #[] #[.pointer (some ⟨Bm,0,none⟩)],.agg #[.int .i64 x.eI,.int .i64 x.eF],undef,undef,undef,undef,undef],defers:=[]})
  (fun x a' _ X Y row hs hg hr=>by obtain⟨Bx,h1,h2,h3⟩:=hs;exact⟨Bx,h1,Gy Bx _ _ _ () X Y row h2 hg (fun r e=>(hr r e).2),h3⟩)
  ?assign ?body ?done ?stop
 case assign=>
  rintro q pre x W K ⟨⟨v,hv,e6,hnil⟩,hB⟩ hK
  simp only[rN]
  gi_wp2
  exact hK _ _ ((KeepsOthers.alloc _ _).from _) (KeepsWalks.alloc _ _) ⟨⟨v,hv.alloc _,e6.alloc _,hnil⟩,hB.alloc hB.size _⟩ ⟨W.heap.size,hv.lt,World.alloc_heap_new _ _,rfl⟩
 case body=>
  rintro q pre x a' W hq hqr ⟨⟨v,hv,e6,hnil⟩,hB⟩ ⟨Bx,hBx,bX,rfl⟩ dR
  have hc:=hv.cell
  have TL:W.cell? ⟨Bx,0,none⟩=some (.int .i64 x.eI):=by simp[World.cell?,bX]
  have TM:W.cell? ⟨Bx,1,none⟩=some (.int .i64 x.eF):=by simp[World.cell?,bX]
  have UX:=hB.size
  gi_wp2_with (gi_at_builtin;refine wpListIn_append_own _ rfl _ _ 100 rfl w.heap.size 50 i0 (.agg #[.int .i64 0,.int .i64 0]) 2 16 (by kernel_rfl) hi Fx yw kz rfl (by decide) _ _ _ rfl (e6.alloc _) ⟨W.heap.size,0,none⟩ 1 1 [.int .i64 x.eI,.int .i64 x.eF] rfl rfl (cell_two_new _ _ _ _) (by simp[Value.oneCell']) (by unfold maxLen;omega) (by omega) (by simp;omega) ?_;intro v' w4 BC yj _;obtain⟨g',TN,rfl⟩:=ownsRow_succ BC;obtain⟨vU,LN,AA,s4,Bt⟩:=hv.appended (by decide) e6 UX (by omega) BC yj;have pS:=vU.cell;have UD:=vU.frozen)
  exact⟨s4.from _,⟨s4.size,fun k o hk hw=>s4.same k o hk (Obj.not_cells_of_walk hw)⟩,⟨⟨_,LN,by rw[JO,List.length_append];exact AA,by simp⟩,hB.trans Bt⟩⟩
 case done=>
  rintro D ys W hD CO ⟨⟨v,hv,e6,hnil⟩,hB⟩ hK
  have hc:=hv.cell
  gi_wp2
  refine⟨by simp,.inl ⟨_,_,rfl,run_takeDeferred hK,?_⟩⟩
  exact⟨_,results_tmp rfl _ _ _,ys,v,CO,rfl,ownsRow_putObj e6 _ hK rfl,hnil,hB.trans (belowK_b (w:=w) (Nat.le_refl _) W D _ _ (by omega) hK rfl rfl)⟩
 case stop=>
  rintro D c pre W _ _ h _
  exact h.elim
end Go.Proofs.YtgoelphibofcmaaGreat.V

namespace Go.Proofs.YtgoelphibofcmaaGreat.V
open Go.RowKit Go.Shelf Go.Lib Go.Sort
instance:Inhabited ad:=⟨⟨0,0⟩⟩
variable {P:Program} {w:World} {D:Nat->Prop} {ι:Names}
theorem wN {vs:Array Value} (h:fh P w D ι [] vs):vs= #[]:=Array.eq_empty_of_size_eq_zero h.1
theorem kJ {a:AV} {r:List AV} {vs:Array Value} (h:fh P w D ι (a::r) vs):∃u us,vs=(u::us).toArray/\dc P w D ι a u/\fh P w D ι r us.toArray:=by
 obtain⟨h1,h2⟩:=h
 obtain⟨l⟩:=vs
 cases l with
 |nil=>simp at h1
 |cons u us=>
  obtain⟨u',hu,hr⟩:=h2 0 a rfl
  simp at hu;subst hu
  exact⟨u,us,rfl,hr,by simpa using h1,fun j b hj=>by
   obtain⟨v,hv,jH⟩:=h2 (j+1) b (by simpa using hj)
   exact⟨v,by simpa using hv,jH⟩⟩
def M3:Prop:=∀(xV off cap:Nat) (d:Array ad) (w:World),HoldsK fM 2 w xV off d->xV<w.heap.size->d.size<4611686018427387904->
 Calls Tryz.prog 175 #[.slice (some ⟨xV,off,none⟩) d.size cap,.func (.func 130) #[] #[]] w fun e w'=>e=.returned (.tuple #[])/\∃d' n os,PermIn 0 d.size d d'/\SortedIn (ltOf pP) 0 d.size d'/\w'=sortWorldK fM 2 w xV off n d' os
def M4:Prop:=∀(p:Option Addr) (cap:Nat) (fv:Value) (w:World),Calls Tryz.prog 175 #[.slice p 0 cap,fv] w fun e w'=>e=.returned (.tuple #[])/\w'=w
theorem Lf (p:ad) (j:Nat) (a:AV) (h:(ab p)[j]? =some a) (P:Program) (w:World) (D:Nat->Prop) (ι:Names):dc P w D ι a (fM p)[j]! :=by
 match j,h with
 |0,h=>simp[ab]at h;subst h;exact .eP _ _ (.int _ _)
 |1,h=>simp[ab]at h;subst h;exact .eP _ _ (.int _ _)
 |j+2,h=>simp[ab]at h
theorem Hl (hC:M3) (hN:M4) (ps:List ad) (hlen:ps.length<=1048576) (σ:ar) (id:Id) (hg:σ.get id=some ⟨true,2,ps.map ab⟩):
  Call Tryz.prog 175 [.own id 0 ps.length,.fn 130 []] σ fun r σ'=>σ'.next=σ.next/\(∀x,x≠id->σ'.get x=σ.get x)/\∃qs,σ'.get id=some ⟨true,2,qs.map ab⟩/\qs.length=ps.length/\(∀x,x∈qs↔x∈ps)/\∀i j:Nat,i<j->j<qs.length->kE (jf qs j) (jf qs i)=false:=by
 refine fN fun hs D ι w vs S U A=>?_
 obtain⟨u1,us1,rfl,h1,h2⟩:=kJ A
 obtain⟨u2,us2,h3,h4,h5⟩:=kJ h2
 simp at h3;subst h3
 have:=wN h5
 simp at this;subst this
 obtain⟨o,cap,B,rfl,hB,DE,ho,pT,hmax,hk⟩:=iT h1
 obtain⟨Vq,gf,rfl,_,hz,_,_⟩:=wO h4
 have hz':Vq= #[]:=Array.eq_empty_of_size_eq_zero (by simpa using hz)
 subst hz'
 by_cases h0:ps=[]
 ·subst h0
  refine(hN _ _ _ w).mono ?_
  rintro e w' ⟨rfl,rfl⟩
  exact⟨.iC [],σ.get,σ.next,D,ι,_,rfl,⟨rfl,fun _ _=>rfl,[],hg,rfl,fun x=>Iff.rfl,fun i j _ hj=>by simp at hj⟩,Step.refl _ _ _ _,S,U,Nat.le_refl _,.iC [] #[] (fun _=>Go.undef) rfl (fun j hj=>by simp at hj) (fun j a h=>by simp at h)⟩
 have lu:0<ps.length:=List.length_pos_iff.2 h0
 obtain⟨B',dD,R,j5,lZ⟩:=S.row id _ hg
 rw[hB]at dD;injection dD with dD;subst dD
 replace R:=R.row hk
 have fa:B.sz=2:=R.sz
 have CK:o=0:=by rcases ho with h|h<;>omega
 subst CK
 obtain⟨cur,T,hblk,dr,Bs⟩:=R.cur
 have Bw:ps.length*2<=B.C:=by simpa using R.fits
 have hH:HoldsK fM 2 w B.b 0 ps.toArray:=by
  intro t ht
  rw[size_flatK]at ht
  have ht2:t<ps.length*2:=by simpa using ht
  have hi:t / 2<ps.length:=by omega
  have CG:w.frozen? ⟨B.b,0+t,none⟩=false:=by
   simp only[World.frozen?,hblk];simp
  refine⟨?_,CG⟩
  rw[get_flatK _ _ _ _ ht]
  have hd:(ps.toArray)[t / 2]! =ps[t / 2]:=by simp[getElem!_pos,hi]
  rw[hd]
  have hj:t % 2=0∨t % 2=1:=by omega
  have ht3:0+t=(t / 2)*2+t % 2:=by omega
  rw[ht3]
  rcases hj with hj|hj
  ·obtain⟨v,hv,hr⟩:=R.at_ (t / 2) 0 (ab ps[t / 2]) _ (by simp[hi]) rfl
   rw[dp hr]at hv
   rw[hj];exact hv
  ·obtain⟨v,hv,hr⟩:=R.at_ (t / 2) 1 (ab ps[t / 2]) _ (by simp[hi]) rfl
   rw[dp hr]at hv
   rw[hj];exact hv
 have nQ:B.b<w.heap.size:=(Array.getElem?_eq_some_iff.1 hblk).1
 have Rf:=hC B.b 0 cap ps.toArray w hH nQ (by simp;omega)
 rw[show ps.toArray.size=ps.length from by simp]at Rf
 refine Rf.mono ?_
 rintro e w' ⟨rfl,d',m,os,⟨KK,_,hperm⟩,hsort,rfl⟩
 have Rk:d'.size=ps.length:=by rw[KK];simp
 have Tj:d'.toList.length=ps.length:=by simpa using Rk
 have hP:d'.toList.Perm ps:=by
  have e1:d'.extract 0 ps.length=d':=by rw[<-Rk];exact Array.extract_size
  have e2:ps.toArray.extract 0 ps.length=ps.toArray:=by
   have:ps.length=ps.toArray.size:=by simp
   rw[this];exact Array.extract_size
  rw[e1,e2]at hperm
  simpa using hperm
 have hF:∀t,t<ps.length*2->(flatK fM 2 d')[t]! =(fM d'[t / 2]!)[t % 2]! :=fun t ht=>get_flatK _ _ _ _ (by rw[Rk];exact ht)
 have hFs:(flatK fM 2 d').size=ps.length*2:=by rw[size_flatK,Rk]
 have hw:sortWorldK fM 2 w B.b 0 m d' os=Go.Sort.grow (Go.Sort.putRow (fun v:Value=>v) (Go.Sort.ahead w m) B.b 0 (flatK fM 2 d')) os:=rfl
 rw[hw]
 clear hw hH
 generalize flatK fM 2 d'=Fl at hF hFs ⊢
 have rT:=S.put (r':=⟨true,2,d'.toList.map ab⟩) (cur':=Go.Sort.putCells (fun v:Value=>v) 0 Fl cur) hg rfl hB hblk (by simp[Go.Sort.putCells]) rfl rfl (by simpa[Rk]using Bw) (fun cs dr=>by
   obtain⟨x,_,rfl⟩:=List.mem_map.1 dr;rfl) (fun cs dr a ha=>by
   obtain⟨x,_,rfl⟩:=List.mem_map.1 dr
   simp[ab]at ha;rcases ha with rfl|rfl<;>rfl) (fun i j cs a hi hj=>by
   have yk:i<d'.toList.length:=by
    have:=(List.getElem?_eq_some_iff.1 hi).1
    simpa using this
   have OJ:j<2:=by
    have:=List.mem_of_getElem? hi
    obtain⟨x,_,rfl⟩:=List.mem_map.1 this
    exact(List.getElem?_eq_some_iff.1 hj).1
   have Ux:cs=ab d'[i]! :=by
    rw[List.getElem?_map,List.getElem?_eq_getElem yk]at hi
    simp at hi
    rw[<-hi,getElem!_pos d' i (by simpa using yk)]
   subst Ux
   have KN:i*2+j<ps.length*2:=by omega
   refine⟨(fM d'[i]!)[j]!,?_,Lf _ _ _ hj _ _ _ _⟩
   have nR:i*2+j<cur.size:=by rw[dr];omega
   show(Go.Sort.putCells (fun v:Value=>v) 0 Fl cur)[i*2+j]? = _
   simp only[Go.Sort.putCells,Array.getElem?_mapIdx,Array.getElem?_eq_getElem nR,Option.map_some]
   rw[if_pos ⟨Nat.zero_le _,by rw[hFs];omega⟩,Nat.sub_zero,hF _ KN,show(i*2+j) / 2=i from by omega,show(i*2+j) % 2=j from by omega])
 obtain⟨S1,NN⟩:=rT
 have LK:(Go.Sort.putRow (fun v:Value=>v) (Go.Sort.ahead w m) B.b 0 Fl).heap.size=w.heap.size:=by simp
 have Nj:∀k,k<(w.setRow B.b (Go.Sort.putCells (fun v:Value=>v) 0 Fl cur)).heap.size->(Go.Sort.grow (Go.Sort.putRow (fun v:Value=>v) (Go.Sort.ahead w m) B.b 0 Fl) os).heap[k]? =(w.setRow B.b (Go.Sort.putCells (fun v:Value=>v) 0 Fl cur)).heap[k]? :=fun k hk=>by
  have I1:k<w.heap.size:=by simpa using hk
  rw[heap_grow_old _ _ (by rw[LK];exact I1)]
  simp only[Go.Sort.putRow,Go.Sort.mapBlock,heap_ahead,Array.getElem?_modify]
  by_cases UN:B.b=k
  ·subst UN
   rw[setRow_heap w B.b cur _ T _ hblk,if_pos rfl,hblk];rfl
  ·rw[if_neg UN,setRow_other w B.b k _ (fun h=>UN h.symm)]
 have kz:(w.setRow B.b (Go.Sort.putCells (fun v:Value=>v) 0 Fl cur)).heap.size<=(Go.Sort.grow (Go.Sort.putRow (fun v:Value=>v) (Go.Sort.ahead w m) B.b 0 Fl) os).heap.size:=by
  rw[size_grow,LK];simp
 have S2:=S1.stay (D':=D) (ι':=ι) Nj kz (fun _ h=>h) (fun b hb=>Nat.lt_of_lt_of_le (S1.dead b hb) kz) (fun _ h=>.inl h) (fun _ _ h=>h)
 have NO:=NN.trans (Step.stay (D':=D) (ι':=ι) S1 Nj kz (by simp[Go.Sort.grow,Go.Sort.putRow,Go.Sort.mapBlock,Go.Sort.ahead]) (by simp[Go.Sort.grow,Go.Sort.putRow,Go.Sort.mapBlock,Go.Sort.ahead]) (by simp[Go.Sort.grow,Go.Sort.putRow,Go.Sort.mapBlock,Go.Sort.ahead]) (fun _ h=>h) (fun _ h=>.inl h) (fun _ _ h=>h))
 refine⟨.iC [],bF σ.get id ⟨true,2,d'.toList.map ab⟩,σ.next,D,ι,_,rfl,⟨rfl,fun x hx=>by simp[bF,hx],d'.toList,by simp[bF],Tj,fun x=>hP.mem_iff,fun i j DO hj=>?_⟩,NO,S2,U,Nat.le_refl _,.iC [] #[] (fun _=>Go.undef) rfl (fun j hj=>by simp at hj) (fun j a h=>by simp at h)⟩
 have h:=hsort i j (Nat.zero_le _) DO (by omega)
 rw[ltOf,mQ]at h
 have e1:d'[j]! =jf d'.toList j:=by rw[iq hj,getElem!_pos d' j (by simpa using hj)];rfl
 have hi:i<d'.toList.length:=by omega
 have e2:d'[i]! =jf d'.toList i:=by rw[iq hi,getElem!_pos d' i (by simpa using hi)];rfl
 rw[<-e1,<-e2];exact h
end Go.Proofs.YtgoelphibofcmaaGreat.V

namespace Go.Proofs
open Go.Shelf
def Tryz.EA:Go.Shelf.Ren:=⟨fun|6=>175|15=>207|14=>206|28=>233|29=>234|20=>225|21=>226|22=>227|23=>228|24=>229|25=>230|26=>231|27=>232|46=>247|47=>248|48=>249|49=>250|50=>251|57=>267|n=>n,fun|22=>100|24=>50|25=>168|3=>3|39=>216|0=>0|53=>268|55=>270|4=>4|46=>262|45=>261|50=>177|5=>5|9=>9|66=>287|70=>291|76=>312|77=>313|n=>n,fun|n=>n⟩
theorem Tryz.J1:Go.Proofs.SlLaysF0.n6 Tryz.prog Tryz.EA:={
 mixed:=by kernel_rfl
 f6:=⟨Tryz.f175.name,by decide,Tryz.func175.trans (congrArg some (by kernel_rfl))⟩
 f14:=⟨Tryz.f206.name,by decide,Tryz.func206.trans (congrArg some (by kernel_rfl))⟩
 f15:=Tryz.func207.trans (congrArg some (by kernel_rfl))
 f20:=⟨Tryz.f225.name,by decide,Tryz.func225.trans (congrArg some (by kernel_rfl))⟩
 f21:=⟨Tryz.f226.name,by decide,Tryz.func226.trans (congrArg some (by kernel_rfl))⟩
 f22:=⟨Tryz.f227.name,by decide,Tryz.func227.trans (congrArg some (by kernel_rfl))⟩
 f23:=⟨Tryz.f228.name,by decide,Tryz.func228.trans (congrArg some (by kernel_rfl))⟩
 f24:=⟨Tryz.f229.name,by decide,Tryz.func229.trans (congrArg some (by kernel_rfl))⟩
 f25:=⟨Tryz.f230.name,by decide,Tryz.func230.trans (congrArg some (by kernel_rfl))⟩
 f26:=⟨Tryz.f231.name,by decide,Tryz.func231.trans (congrArg some (by kernel_rfl))⟩
 f27:=⟨Tryz.f232.name,by decide,Tryz.func232.trans (congrArg some (by kernel_rfl))⟩
 f28:=Tryz.func233.trans (congrArg some (by kernel_rfl))
 f29:=Tryz.func234.trans (congrArg some (by kernel_rfl))
 f46:=⟨Tryz.f247.name,by decide,Tryz.func247.trans (congrArg some (by kernel_rfl))⟩
 f47:=Tryz.func248.trans (congrArg some (by kernel_rfl))
 f48:=Tryz.func249.trans (congrArg some (by kernel_rfl))
 f49:=⟨Tryz.f250.name,by decide,Tryz.func250.trans (congrArg some (by kernel_rfl))⟩
 f50:=⟨Tryz.f251.name,by decide,Tryz.func251.trans (congrArg some (by kernel_rfl))⟩
 f57:=⟨Tryz.f267.name,by decide,Tryz.func267.trans (congrArg some (by kernel_rfl))⟩
 t0:=Tryz.underlying0
 a0:=Tryz.isAgg0
 z0:=Tryz.sizeOf0
 v0:=Tryz.zeroValue0
 t3:=Tryz.underlying3
 a3:=Tryz.isAgg3
 z3:=Tryz.sizeOf3
 v3:=Tryz.zeroValue3
 t4:=Tryz.underlying4
 a4:=Tryz.isAgg4
 z4:=Tryz.sizeOf4
 v4:=Tryz.zeroValue4
 t5:=Tryz.underlying5
 a5:=Tryz.isAgg5
 z5:=Tryz.sizeOf5
 v5:=Tryz.zeroValue5
 t9:=Tryz.underlying9
 a9:=Tryz.isAgg9
 z9:=Tryz.sizeOf9
 v9:=Tryz.zeroValue9
 t22:=Tryz.underlying100
 a22:=Tryz.isAgg100
 z22:=Tryz.sizeOf100
 v22:=Tryz.zeroValue100
 t25:=Tryz.underlying168
 a25:=Tryz.isAgg168
 z25:=Tryz.sizeOf168
 v25:=Tryz.zeroValue168
 t39:=Tryz.underlying216
 a39:=Tryz.isAgg216
 z39:=Tryz.sizeOf216
 v39:=Tryz.zeroValue216
 t45:=Tryz.underlying261
 a45:=Tryz.isAgg261
 z45:=Tryz.sizeOf261
 v45:=Tryz.zeroValue261
 t46:=Tryz.underlying262
 a46:=Tryz.isAgg262
 z46:=Tryz.sizeOf262
 v46:=Tryz.zeroValue262
 t50:=Tryz.underlying177
 a50:=Tryz.isAgg177
 z50:=Tryz.sizeOf177
 v50:=Tryz.zeroValue177
 t53:=Tryz.underlying268
 a53:=Tryz.isAgg268
 z53:=Tryz.sizeOf268
 v53:=Tryz.zeroValue268
 t55:=Tryz.underlying270
 a55:=Tryz.isAgg270
 z55:=Tryz.sizeOf270
 v55:=Tryz.zeroValue270
 t66:=Tryz.underlying287
 a66:=Tryz.isAgg287
 z66:=Tryz.sizeOf287
 v66:=Tryz.zeroValue287
 t70:=Tryz.underlying291
 a70:=Tryz.isAgg291
 z70:=Tryz.sizeOf291
 v70:=Tryz.zeroValue291
 t76:=Tryz.underlying312
 a76:=Tryz.isAgg312
 z76:=Tryz.sizeOf312
 v76:=Tryz.zeroValue312
 t77:=Tryz.underlying313
 a77:=Tryz.isAgg313
 z77:=Tryz.sizeOf313
 v77:=Tryz.zeroValue313}
end Go.Proofs

namespace Go.Proofs.YtgoelphibofcmaaGreat.V
open Go.RowKit Go.Shelf Go.Lib Go.Sort
theorem A4 (w:World) (a b:Int):Calls Tryz.prog 178 #[.int .i64 a,.int .i64 b] w fun e w'=>e=.returned (.int .i64 (rL a b))/\w=w':=by
 go_enter Tryz.func178,Tryz.ntmps178
 go_wp2_with go_in
 all_goals
  go_ret
  exact⟨FL (by unfold rL;split<;>(try split)<;>omega),rfl⟩
theorem Ml (w:World) (a b:Int) (g:Nat) (ha:w.cell? ⟨g,0,none⟩=some (.int .i64 a)) (hb:w.cell? ⟨g,1,none⟩=some (.int .i64 b)):Calls Tryz.prog 177 #[.slice (some ⟨g,0,none⟩) 2 2] w fun e w'=>e=.returned (.int .i64 (Mm a b))/\w=w':=by
 go_enter Tryz.func177,Tryz.ntmps177
 go_wp2_with fail
 go_loop [8] (fun i=>∃k:Nat,k<=2/\i=.int .i64 k/\Hid ((1<=k->a=0)/\(2<=k->b=0))) (fun i=>2-(intOf i).toNat)
 case atStart=>exact⟨0,by omega,rfl,Lib.hid ⟨fun h=>by omega,fun h=>by omega⟩⟩
 case round=>
  obtain⟨k,hk,rfl,hz⟩:=hrel
  have h3:k=0∨k=1∨k=2:=by omega
  rcases h3 with rfl|rfl|rfl
  ·go_wp2_with fail
   ·rename_i h
    go_ret
    exact⟨FL (by unfold Mm;simp_all),rfl⟩
   ·rename_i h
    go_round
    case rel=>exact⟨1,by omega,rfl,Lib.hid ⟨fun _=>by simpa using h,fun h=>by omega⟩⟩
    case measure=>simp[intOf]
  ·have h0:=hz.out.1 (by omega)
   replace h0:=Lib.hid h0
   go_wp2_with fail
   ·go_ret
    exact⟨FL (by unfold Mm;rw[if_pos h0.out]),rfl⟩
   ·rename_i h
    go_round
    case rel=>exact⟨2,by omega,rfl,Lib.hid ⟨fun _=>h0.out,fun _=>by simpa using h⟩⟩
    case measure=>simp[intOf]
  ·have h0:=Lib.hid (hz.out.1 (by omega))
   have h1:=Lib.hid (hz.out.2 (by omega))
   go_wp2_with fail
   go_ret
   exact⟨FL (by unfold Mm;rw[if_pos h0.out,h1.out]),rfl⟩
def Grown (w w':World):Prop:=∃(q:Nat) (os:Array Obj),w'=Go.Sort.grow (w.drewN q) os
theorem Grown.refl (w:World):Grown w w:=⟨0, #[],by rw[grow_empty];rfl⟩
theorem Grown.alloc {w w':World} (h:Grown w w') (o:Obj):Grown w (w'.alloc o):=by
 obtain⟨q,os,rfl⟩:=h
 exact⟨q,os++ #[o],by rw[alloc_eq_grow,grow_grow]⟩
theorem Grown.drew {w w':World} (h:Grown w w'):Grown w w'.drew:=by
 obtain⟨q,os,rfl⟩:=h
 exact⟨q+1,os,by rw[drew_grow];rfl⟩
theorem Grown.dN {w w':World} (h:Grown w w') (n:Nat):Grown w (w'.drewN n):=by
 obtain⟨q,os,rfl⟩:=h
 exact⟨q+n,os,by
  show Go.Sort.grow ((w.drewN q).drewN n) os=Go.Sort.grow (w.drewN (q+n)) os
  simp[World.drewN,Nat.add_assoc]⟩
theorem ug (w:World) (a b:ad):Calls Tryz.prog 130 #[.agg #[.int .i64 a.eI,.int .i64 a.eF],.agg #[.int .i64 b.eI,.int .i64 b.eF]] w fun e w'=>e=.returned (.int .i64 (pP a b))/\Grown w w':=by
 go_enter Tryz.func130,Tryz.ntmps130
 go_wp2_with fail
 go_region_held3 (fun w'=>w'.cell? ⟨w.heap.size,0,none⟩=some (.int .i64 a.eI)/\w'.cell? ⟨w.heap.size,1,none⟩=some (.int .i64 a.eF)/\
   w'.cell? ⟨w.heap.size+1,0,none⟩=some (.int .i64 b.eI)/\w'.cell? ⟨w.heap.size+1,1,none⟩=some (.int .i64 b.eF))
  (first|go_keep)
  (first|(go_at_call 178;refine(A4 _ _ _).mono ?_;rintro e w' ⟨rfl,rfl⟩)|(go_at_call 177;refine(Ml _ (rL a.eF b.eF) (rL a.eI b.eI) _ (by simp[go_sem]) (by simp[go_sem])).mono ?_;rintro e w' ⟨rfl,rfl⟩))
 go_wp2_with fail
 go_ret
 refine⟨rfl,?_⟩
 repeat(first|(with_reducible exact Grown.refl _)|(refine Grown.alloc ?_ _)|(refine Grown.drew ?_)|(refine Grown.dN ?_ _))
theorem Vo:SWO (ltOf pP) where
 irrefl x:=by rw[ltOf,mQ];exact mZ
 trans x y z h1 h2:=by rw[ltOf,mQ]at *;exact iy h1 h2
 ntrans x y z h1 h2:=by rw[ltOf,mQ]at *;rw[po]at *;omega
theorem Sf:M3:=fun xV off cap d w hH hblk fa=>by
 have eg:∀args w,(callFunc 130 args).run Tryz.prog w=.ok (.enter 130 args) w:=enters_of Tryz.func130 (by kernel_rfl) rfl
 have h:=AnyQ.slices_SortFunc Tryz.J1 2 Tryz.isAgg50 Tryz.sizeOf50 fM (fun _=>rfl) (fun x v hv=>by simp[fM]at hv;rcases hv with rfl|rfl<;>rfl) pP Vo 130 #[] xV off cap d w eg (fun m os dk _ x y=>(ug _ x y).mono fun _ _ ⟨he,q,os',hw⟩=>⟨he,q,os',hw⟩) hH hblk fa
 exact h
theorem NC:M4:=fun p cap fv w=>AnyF.slices_SortFunc_none Tryz.J1 p cap fv w
end Go.Proofs.YtgoelphibofcmaaGreat.V

namespace Go.Proofs.YtgoelphibofcmaaGreat.V
open Go.RowKit
attribute [local irreducible] ek wpOps gq Call
attribute [local go_sem] aH fF eK ga fZ da upd ck K.av cH AV.cells AV.cell rowOf rowsOf part ld rowAt bF cj dy dW gU bG cX eh fY eU dn ea cV cU dH dI bJ aW cK bI cN cL dY eb dZ cJ bL cW dX bH aL cQ cC gT bj cF bK aT du bf dz AV.undef bw bE dM dU dE dJ cE ef ep cw ee ec cP cR List.getD_cons_zero List.getD_cons_succ List.getD_nil List.all_cons List.all_nil Bool.and_true Bool.true_and Bool.and_self Bool.not_true Bool.not_false Option.map_some Option.map_none Option.bind_some Option.bind_none List.length_cons List.length_nil List.take_succ_cons List.take_zero List.take_nil List.drop_succ_cons List.drop_zero List.drop_nil List.head?_cons List.map_cons List.map_nil List.getElem?_cons_zero List.getElem?_cons_succ List.cons_append List.nil_append List.append_nil List.length_map List.set_cons_zero List.set_cons_succ Nat.reduceMul eq_self Int.toNat_natCast Int.natCast_nonneg and_self true_and and_true decide_true decide_false Bool.false_eq_true Nat.zero_add Nat.add_zero List.contains_cons List.contains_nil Bool.or_false Bool.false_or beq_self_eq_true Nat.reduceBEq ne_eq not_true_eq_false not_false_eq_true Id.mk.injEq false_and and_false Nat.reduceLT Int.reduceLE Int.reduceLT Int.reduceToNat Int.reduceNeg Int.reduceAdd Nat.le_refl List.length_append beq_true beq_false Bool.not_eq_eq_eq_not or_false false_or dF ai ao aG aZ bt bW aP aY aQ aV cI bD
structure nA (n:Nat) (px:Nat->Option Nat) (L:Nat->Nat):Prop where
 top:∀k,k<n->px k=none->L k=k
 up:∀k j,k<n->px k=some j->j<k/\L j=L k
theorem nA.root {n:Nat} {px:Nat->Option Nat} {L:Nat->Nat} (h:nA n px L) (hL:jD L) {k:Nat} (hk:k<n) (hr:L k=k):px k=none:=by
 rcases hp:px k with _|j
 ·rfl
 ·obtain⟨h1,h2⟩:=h.up k j hk hp
  have:=hL.le j
  omega
theorem nA.start (n:Nat):nA n (fun _=>none) id:=⟨fun _ _ _=>rfl,fun _ _ _ h=>by cases h⟩
theorem nA.join {n:Nat} {px:Nat->Option Nat} {L:Nat->Nat} (h:nA n px L) (hL:jD L) (b:PB) (dR:min (L b.a) (L b.b)<max (L b.a) (L b.b)):nA n (fun k=>if k=max (L b.a) (L b.b)then some (min (L b.a) (L b.b))else px k) (eO L b):=by
 have ha:=hL.idem b.a
 have hb:=hL.idem b.b
 have zB:L (min (L b.a) (L b.b))=min (L b.a) (L b.b):=by
  rcases Nat.le_total (L b.a) (L b.b)with h|h
  ·rw[Nat.min_eq_left h,ha]
  ·rw[Nat.min_eq_right h,hb]
 have Rx:L (max (L b.a) (L b.b))=max (L b.a) (L b.b):=by
  rcases Nat.le_total (L b.a) (L b.b)with h|h
  ·rw[Nat.max_eq_right h,hb]
  ·rw[Nat.max_eq_left h,ha]
 unfold eO
 generalize min (L b.a) (L b.b)=lo at *
 generalize max (L b.a) (L b.b)=hi at *
 refine⟨fun k hk hp=>?_,fun k j hk hp=>?_⟩
 ·by_cases KH:k=hi
  ·rw[if_pos KH]at hp;cases hp
  ·rw[if_neg KH]at hp
   have:=h.top k hk hp
   rw[if_neg (by omega)];exact this
 ·by_cases KH:k=hi
  ·rw[if_pos KH]at hp
   cases hp
   subst KH
   exact⟨dR,by rw[if_neg (by omega),if_pos Rx,zB]⟩
  ·rw[if_neg KH]at hp
   obtain⟨h1,h2⟩:=h.up k j hk hp
   exact⟨h1,by rw[h2]⟩
theorem zI {L:Nat->Nat} {b:PB} (h:L b.a=L b.b):eO L b=L:=by
 funext k
 unfold eO
 rw[h,Nat.max_self,Nat.min_self]
 split
 ·rename_i h;exact h.symm
 ·rfl
def sV (G:Nat->Id) (px:Nat->Option Nat) (k:Nat):List AV:=[match px k with|none=>.gP|some j=>.ptr (G j) 0 0,.int .i64 (k:Int)]
def uc (g:Rows) (G:Nat->Id) (n:Nat) (px:Nat->Option Nat):Prop:=∀k,k<n->g (G k)=some ⟨true,2,[sV G px k]⟩
theorem uc.frame {g g':Rows} {G:Nat->Id} {n:Nat} {px:Nat->Option Nat} (h:uc g G n px) (hf:∀k,k<n->g' (G k)=g (G k)):uc g' G n px:=fun k hk=>(hf k hk).trans (h k hk)
theorem lG {G:Nat->Id} {px:Nat->Option Nat} {k:Nat} (h:px k=none):sV G px k=[.gP,.int .i64 (k:Int)]:=by rw[sV,h]
theorem tL {G:Nat->Id} {px:Nat->Option Nat} {k j:Nat} (h:px k=some j):sV G px k=[.ptr (G j) 0 0,.int .i64 (k:Int)]:=by rw[sV,h]
theorem zm (G:Nat->Id) (n:Nat) (px:Nat->Option Nat) (L:Nat->Nat) (h:nA n px L) (k:Nat) (hk:k<n) (σ:ar) (hG:uc σ.get G n px):
  Call Tryz.prog 262 [.ptr (G k) 0 0] σ fun r σ'=>r=.ptr (G (L k)) 0 0/\σ'.get=σ.get/\σ.next<=σ'.next:=by
 refine eV eL rfl fun hl=>?_
 clear hl
 (try((repeat(revert hN;revert N;apply Pn.out));refine wk @Nat.zero_add ?_;(repeat(refine Pn.mk ?_;intro N hN))))
 refine aM (fun m env st=>∃j:Nat,m=j/\j<n/\env 0=.ptr (G j) 0 0/\L j=L k/\st.get=σ.get/\σ.next<=st.next) k ⟨k,rfl,hk,sd @Nat.zero_add,rfl,by(try dsimp only),by(try dsimp only);omega⟩ ?_
 rintro m env_b st_b ⟨j,rfl,hj,b0,hLj,hg,hle⟩ e9
 clear e9
 have e6:=hG m hj
 rcases hp:px m with _|j
 ·rw[lG hp]at e6
  (try((repeat(revert hN;revert N;apply Pn.out));refine wk (tw @b0 (tw @hg @e6)) ?_;(repeat(refine Pn.mk ?_;intro N hN))))
  exact fb (.inl rfl) (vs:=[.ptr (G m) 0 0]) (sd @Nat.zero_add) ⟨by rw[<-hLj,h.top m hj hp];rfl,by first|trivial|rfl|exact hg,by(try dsimp only);omega⟩
 ·rw[tL hp]at e6
  obtain⟨h1,h2⟩:=h.up m j hj hp
  (try((repeat(revert hN;revert N;apply Pn.out));refine wk (tw @b0 (tw @hg @e6)) ?_;(repeat(refine Pn.mk ?_;intro N hN))))
  exact⟨j,h1,j,rfl,by omega,sd @Nat.zero_add,by omega,by first|trivial|rfl|exact hg,by(try dsimp only);omega⟩
end Go.Proofs.YtgoelphibofcmaaGreat.V

namespace Go.Proofs.YtgoelphibofcmaaGreat.V
open Go.RowKit
attribute [local irreducible] ek wpOps gq Call
attribute [local go_sem] aH fF eK ga fZ da upd ck K.av cH AV.cells AV.cell rowOf rowsOf part ld rowAt bF cj dy dW gU bG cX eh fY eU dn ea cV cU dH dI bJ aW cK bI cN cL dY eb dZ cJ bL cW dX bH aL cQ cC gT bj cF bK aT du bf dz AV.undef bw bE dM dU dE dJ cE ef ep cw ee ec cP cR List.getD_cons_zero List.getD_cons_succ List.getD_nil List.all_cons List.all_nil Bool.and_true Bool.true_and Bool.and_self Bool.not_true Bool.not_false Option.map_some Option.map_none Option.bind_some Option.bind_none List.length_cons List.length_nil List.take_succ_cons List.take_zero List.take_nil List.drop_succ_cons List.drop_zero List.drop_nil List.head?_cons List.map_cons List.map_nil List.getElem?_cons_zero List.getElem?_cons_succ List.cons_append List.nil_append List.append_nil List.length_map List.set_cons_zero List.set_cons_succ eq_self Int.toNat_natCast Int.natCast_nonneg and_self true_and and_true decide_true decide_false Bool.false_eq_true Nat.zero_add Nat.add_zero List.contains_cons List.contains_nil Bool.or_false Bool.false_or beq_self_eq_true ne_eq not_true_eq_false not_false_eq_true Id.mk.injEq false_and and_false Nat.le_refl List.length_append beq_true beq_false Bool.not_eq_eq_eq_not or_false false_or dF ai ao aG aZ bt bW aP aY aQ aV cI bD
abbrev mI:MK:=⟨false,[.tI]⟩
def s6 (l:List (Nat×Nat)):List (List AV):=l.map fun p=>[.int .i64 (p.1:Int),.int .i64 (p.2:Int)]
theorem BN (r:Nat):∀(l:List (Nat×Nat)) (i:Nat),((∀p∈l,p.1≠r)->gi mI [.int .i64 (r:Int)] (s6 l) i=some none)/\(∀j v,l[j]? =some (r,v)->(∀x y,x<j->l[x]? =some y->y.1≠r)->gi mI [.int .i64 (r:Int)] (s6 l) i=some (some (i+j)))
 |[],i=>⟨fun _=>rfl,fun j v h=>by simp at h⟩
 |p::l,i=>by
  obtain⟨h1,h2⟩:=BN r l (i+1)
  by_cases h:p.1=r
  ·refine⟨fun hp=>absurd h (hp p (by simp)),fun j v hj hf=>?_⟩
   have IZ:j=0:=by
    rcases Nat.eq_zero_or_pos j with h0|h0
    ·exact h0
    ·exact absurd h (hf 0 p h0 (by simp))
   subst IZ
   simp[s6,gi,eU,fY,MK.ks,h]
  ·have hd:¬((r:Int)=(p.1:Int)):=by omega
   have uk:¬r=p.1:=fun he=>h he.symm
   have step:gi mI [.int .i64 (r:Int)] (s6 (p::l)) i=gi mI [.int .i64 (r:Int)] (s6 l) (i+1):=by
    unfold s6
    simp[gi,MK.ks,eU,fY,hd,uk,h]
   rw[step]
   refine⟨fun hp=>h1 fun q hq=>hp q (by simp[hq]),fun j v hj hf=>?_⟩
   cases j with
   |zero=>simp at hj;rw[hj]at h;exact absurd rfl h
   |succ j=>
    rw[h2 j v (by simpa using hj) fun x y hx hy=>hf (x+1) y (by omega) (by simpa using hy)]
    congr 2;omega
theorem yz {r:Nat} {l:List (Nat×Nat)}:((∀p∈l,p.1≠r)->fV mI (.int .i64 (r:Int)) (s6 l)=some none)/\(∀j v,l[j]? =some (r,v)->(∀x y,x<j->l[x]? =some y->y.1≠r)->fV mI (.int .i64 (r:Int)) (s6 l)=some (some j)):=by
 have e:fV mI (.int .i64 (r:Int)) (s6 l)=gi mI [.int .i64 (r:Int)] (s6 l) 0:=by
  unfold fV
  rw[if_pos ⟨rfl,rfl,rfl⟩];rfl
 obtain⟨h1,h2⟩:=BN r l 0
 rw[e]
 exact⟨h1,fun j v hj hf=>by rw[h2 j v hj hf,Nat.zero_add]⟩
def kT (k:Nat) (L:Nat->Nat):List (List AV):=s6 (leads k L).zipIdx
theorem Ea {k:Nat} {L:Nat->Nat} (h:L k=k):kT (k+1) L=kT k L++[[.int .i64 (k:Int),.int .i64 ((leads k L).length:Int)]]:=by
 unfold kT
 rw[gO,if_pos h,List.zipIdx_append]
 simp[s6]
theorem D9 {k:Nat} {L:Nat->Nat} (h:L k≠k):kT (k+1) L=kT k L:=by
 unfold kT
 rw[gO,if_neg h,List.append_nil]
theorem GW {k:Nat} {L:Nat->Nat} (h:L k=k):fV mI (.int .i64 (k:Int)) (kT k L)=some none:=by
 refine yz.1 fun p hp=>?_
 have:=List.fst_mem_of_mem_zipIdx hp
 have:=(yF.1 this).1
 omega
theorem yE {n:Nat} {L:Nat->Nat} {x y:Nat} (hx:x<(leads n L).length) (hy:y<(leads n L).length) (h:(leads n L)[x]=(leads n L)[y]):x=y:=by
 have hp:=List.pairwise_iff_getElem.1 (tR n L)
 rcases Nat.lt_trichotomy x y with dR|he|dR
 ·exact absurd h (hp x y hx hy dR)
 ·exact he
 ·exact absurd h.symm (hp y x hy hx dR)
theorem yD {k:Nat} {L:Nat->Nat} (hL:jD L) (h:L k≠k):fV mI (.int .i64 (L k:Int)) (kT k L)=some (some (bQ L k))/\(kT k L)[bQ L k]? =some [.int .i64 (L k:Int),.int .i64 (bQ L k:Int)]/\bQ L k<(leads k L).length:=by
 have dR:L k<k:=Nat.lt_of_le_of_ne (hL.le k) h
 have hn:bQ L (L k)=bQ L k:=by rw[bQ,hL.idem,bQ]
 have hg:=pk hL dR
 rw[hn,hL.idem]at hg
 have hl:bQ L k<(leads k L).length:=(List.getElem?_eq_some_iff.1 hg).1
 have hz:(leads k L).zipIdx[bQ L k]? =some (L k,bQ L k):=by simp[List.getElem?_zipIdx,hg]
 refine⟨yz.2 _ _ hz fun x y hx hy=>?_,by unfold kT s6;rw[List.getElem?_map,hz];rfl,hl⟩
 intro he
 rw[List.getElem?_zipIdx]at hy
 have Qw:x<(leads k L).length:=by omega
 rw[List.getElem?_eq_getElem Qw]at hy
 simp at hy
 rw[<-hy]at he
 simp at he
 have e2:(leads k L)[bQ L k]=L k:=(List.getElem?_eq_some_iff.1 hg).2
 have:=yE Qw hl (he.trans e2.symm)
 omega
def jJ (k:Nat) (L:Nat->Nat):List (List Nat):=(leads k L).map (members k L)
theorem qE (k:Nat) (L:Nat->Nat):(jJ k L).length=(leads k L).length:=by simp[jJ]
theorem Dt {k:Nat} {L:Nat->Nat} (hL:jD L) (h:L k=k):jJ (k+1) L=jJ k L++[[k]]:=by
 unfold jJ
 rw[gO,if_pos h,List.map_append,List.map_cons,List.map_nil,jt,if_pos h,nf hL (Nat.le_refl k),List.nil_append]
 congr 1
 refine List.map_congr_left fun r hr=>?_
 have:=(yF.1 hr).1
 rw[jt,if_neg (by omega),List.append_nil]
theorem Du {k:Nat} {L:Nat->Nat} (hL:jD L) (h:L k≠k):(jJ k L)[bQ L k]? =some (members k L (L k))/\jJ (k+1) L=(jJ k L).set (bQ L k) (members k L (L k)++[k]):=by
 obtain⟨_,_,hl⟩:=yD hL h
 have dR:L k<k:=Nat.lt_of_le_of_ne (hL.le k) h
 have hg:=pk hL dR
 have hn:bQ L (L k)=bQ L k:=by rw[bQ,hL.idem,bQ]
 rw[hn,hL.idem]at hg
 refine⟨by unfold jJ;rw[List.getElem?_map,hg];rfl,?_⟩
 unfold jJ
 rw[gO,if_neg h,List.append_nil]
 refine List.ext_getElem? fun i=>?_
 rw[List.getElem?_set,List.getElem?_map,List.length_map]
 by_cases hi:bQ L k=i
 ·subst hi
  rw[if_pos rfl,if_pos hl,hg,Option.map_some,jt,if_pos rfl]
 ·rw[if_neg hi,List.getElem?_map]
  rcases hr:(leads k L)[i]? with _|r
  ·rfl
  ·rw[Option.map_some,Option.map_some,jt,if_neg,List.append_nil]
   rintro rfl
   obtain⟨nG,he⟩:=List.getElem?_eq_some_iff.1 hr
   have e2:(leads k L)[bQ L k]=L k:=(List.getElem?_eq_some_iff.1 hg).2
   exact hi (yE hl nG (e2.trans he.symm))
theorem B7 (k:Nat) (L:Nat->Nat) (r:Nat):(members k L r).length<=k:=by
 have:=List.length_filter_le (fun x=>L x==r) (List.range k)
 simpa[members]using this
def FY (g:Rows) (o:Id) (L:List (List Nat)) (nx:Nat):Prop:=∃rows ids,g o=some ⟨true,1,rows⟩/\eE P0 g rows L ids/\ids.Nodup/\(∀i∈ids,i.site=240026008/\i.bm<nx)/\o.site=240025002/\o.bm<nx
theorem FY.frame {g g':Rows} {o:Id} {L:List (List Nat)} {nx uM:Nat} (h:FY g o L nx) (hn:nx<=uM) (hf:∀i:Id,(i.site=240026008∨i.site=240025002)->i.bm<nx->g' i=g i):FY g' o L uM:=by
 obtain⟨rows,ids,h1,h2,h3,h4,h5,h6⟩:=h
 exact⟨rows,ids,(hf o (.inr h5) h6).trans h1,h2.frame L8 fun i hi=>hf i (.inl (h4 i hi).1) (h4 i hi).2,h3,fun i hi=>⟨(h4 i hi).1,by have:=(h4 i hi).2;omega⟩,h5,by omega⟩
theorem Lk {g':Rows} {v v' uM j:Nat} (h1:g' ⟨240025002,v⟩=some ⟨true,1,[[.own ⟨240026008,v'⟩ 0 1]]⟩) (h2:g' ⟨240026008,v'⟩=some ⟨true,1,[eN j]⟩) (hv:v<uM) (nU:v'<uM):FY g' ⟨240025002,v⟩ [[j]] uM:=
 ⟨_,[⟨240026008,v'⟩],h1,.one ⟨_,rfl,h2,rfl⟩,by simp,fun i hi=>by rw[List.mem_singleton.1 hi];exact⟨rfl,nU⟩,rfl,hv⟩
theorem FY.new {g:Rows} {o:Id} {L:List (List Nat)} {nx:Nat} (h:FY g o L nx) (j:Nat):∃rows,g o=some ⟨true,1,rows⟩/\rows.length=L.length/\∀(g':Rows) (v v' uM:Nat),nx<=v'->v<uM->v'<uM->g' ⟨240025002,v⟩=some ⟨true,1,rows++[[.own ⟨240026008,v'⟩ 0 1]]⟩->g' ⟨240026008,v'⟩=some ⟨true,1,[eN j]⟩->(∀i:Id,i.site=240026008->i.bm<nx->g' i=g i)->FY g' ⟨240025002,v⟩ (L++[[j]]) uM:=by
 obtain⟨rows,ids,h1,h2,h3,h4,h5,h6⟩:=h
 refine⟨rows,h1,h2.len,fun g' v v' uM hv vU LN q1 q2 q3=>⟨_,ids++[⟨240026008,v'⟩],q1,(h2.frame L8 fun i hi=>q3 i (h4 i hi).1 (h4 i hi).2).app (.one ⟨_,rfl,q2,rfl⟩),?_,fun i hi=>?_,rfl,vU⟩⟩
 ·refine List.nodup_append.2 ⟨h3,by simp,fun a ha b hb nP=>?_⟩
  rw[List.mem_singleton.1 hb]at nP
  have:=(h4 a ha).2
  rw[nP]at this
  simp only at this
  omega
 ·rcases List.mem_append.1 hi with hi|hi
  ·have:=h4 i hi;exact⟨this.1,by omega⟩
  ·rw[List.mem_singleton.1 hi];exact⟨rfl,LN⟩
theorem FY.add {g:Rows} {o:Id} {L:List (List Nat)} {nx k:Nat} {La:List Nat} (h:FY g o L nx) (hk:L[k]? =some La) (j:Nat):∃rows id,g o=some ⟨true,1,rows⟩/\rows.length=L.length/\rows[k]? =some [.own id 0 La.length]/\g id=some ⟨true,1,La.map eN⟩/\id.site=240026008/\id.bm<nx/\∀(g':Rows) (v' uM:Nat),nx<=v'->v'<uM->g' o=some ⟨true,1,rows.set k [.own ⟨240026008,v'⟩ 0 (La.length+1)]⟩->g' ⟨240026008,v'⟩=some ⟨true,1,La.map eN++[[.int .i64 (j:Int)]]⟩->(∀i:Id,i.site=240026008->i.bm<nx->(i=id)=False->g' i=g i)->FY g' o (L.set k (La++[j])) uM:=by
 obtain⟨rows,ids,h1,h2,h3,h4,h5,h6⟩:=h
 have kH:k<L.length:=(List.getElem?_eq_some_iff.1 hk).1
 have Uf:=kO hk kH
 obtain⟨cs,ic,dr,Qc,Rs,rT⟩:=h2.Sc L8 h3 k kH
 rw[Uf]at Qc
 obtain⟨id,rfl,q1,rfl⟩:=Qc
 have hid:=h4 id (Rs id (by simp))
 refine⟨rows,id,h1,h2.len,dr,q1,hid.1,hid.2,fun g' v' uM hv vU r1 r2 r3=>?_⟩
 obtain⟨DX,s1,s2,s3⟩:=rT g' [.own ⟨240026008,v'⟩ 0 (La.length+1)] (La++[j]) [⟨240026008,v'⟩] ⟨_,by simp,by rw[r2];simp[eN],rfl⟩ (fun i hi Tf=>r3 i (h4 i hi).1 (h4 i hi).2 (by
  simp only[eq_iff_iff,iff_false];rintro rfl;exact Tf (by simp))) (by simp) fun i hi hc=>by
   rw[List.mem_singleton.1 hi]at hc
   have:=(h4 _ hc).2
   simp only at this
   omega
 refine⟨_,DX,r1,s1,s2,fun i hi=>?_,h5,by omega⟩
 rcases s3 i hi with h|h
 ·rw[List.mem_singleton.1 h];exact⟨rfl,vU⟩
 ·have:=h4 i h;exact⟨this.1,by omega⟩
def lV (G:Nat->Id) (n k:Nat):List (List AV):=(List.range n).map fun i=>[if i<k then .ptr (G i) 0 0 else .gP]
theorem mv (G:Nat->Id) (n k:Nat):(lV G n k).length=n:=by simp[lV]
theorem Hs (G:Nat->Id) (n:Nat):List.replicate n [AV.gP]=lV G n 0:=by
 refine List.ext_getElem? fun i=>?_
 by_cases h:i<n
 ·rw[List.getElem?_replicate,if_pos h];simp[lV,h]
 ·rw[List.getElem?_eq_none (by simp;omega),List.getElem?_eq_none (by rw[mv];omega)]
theorem xb {G:Nat->Id} {n i:Nat} (h:i<n):(lV G n n)[i]? =some [.ptr (G i) 0 0]:=by simp[lV,h]
theorem Kc {G:Nat->Id} {n k:Nat} (h:k<n):(lV G n k).set k [.ptr (G k) 0 0]=lV G n (k+1):=by
 refine List.ext_getElem? fun i=>?_
 rw[List.getElem?_set,mv]
 by_cases hi:k=i
 ·subst hi;rw[if_pos rfl,if_pos h];simp[lV,h]
 ·rw[if_neg hi]
  by_cases fU:i<n
  ·simp only[lV,List.getElem?_map,List.getElem?_range fU,Option.map_some]
   by_cases yl:i<k
   ·rw[if_pos yl,if_pos (by omega)]
   ·rw[if_neg yl,if_neg (by omega)]
  ·rw[List.getElem?_eq_none (by rw[mv];omega),List.getElem?_eq_none (by rw[mv];omega)]
end Go.Proofs.YtgoelphibofcmaaGreat.V

namespace Go.Proofs.YtgoelphibofcmaaGreat.V
open Go.RowKit
attribute [local irreducible] ek wpOps gq Call
attribute [local go_sem] aH fF eK ga fZ da upd ck K.av cH AV.cells AV.cell rowOf rowsOf part ld rowAt bF cj dy dW gU bG cX eh fY eU dn ea cV cU dH dI bJ aW cK bI cN cL dY eb dZ cJ bL cW dX bH aL cQ cC gT bj cF bK aT du bf dz AV.undef bw bE dM dU dE dJ cE ef ep cw ee ec cP cR List.getD_cons_zero List.getD_cons_succ List.getD_nil List.all_cons List.all_nil Bool.and_true Bool.true_and Bool.and_self Bool.not_true Bool.not_false Option.map_some Option.map_none Option.bind_some Option.bind_none List.length_cons List.length_nil List.take_succ_cons List.take_zero List.take_nil List.drop_succ_cons List.drop_zero List.drop_nil List.head?_cons List.map_cons List.map_nil List.getElem?_cons_zero List.getElem?_cons_succ List.cons_append List.nil_append List.append_nil List.length_map List.set_cons_zero List.set_cons_succ Nat.reduceMul eq_self Int.toNat_natCast Int.natCast_nonneg and_self true_and and_true decide_true decide_false Bool.false_eq_true Nat.zero_add Nat.add_zero List.contains_cons List.contains_nil Bool.or_false Bool.false_or beq_self_eq_true Nat.reduceBEq ne_eq not_true_eq_false not_false_eq_true Id.mk.injEq false_and and_false Nat.reduceLT Int.reduceLE Int.reduceLT Int.reduceToNat Int.reduceNeg Int.reduceAdd Nat.le_refl List.length_append beq_true beq_false Bool.not_eq_eq_eq_not or_false false_or dF ai ao aG aZ bt bW aP aY aQ aV cI bD
theorem gH {o:Id} {a:Nat} (h:o.site=a) {b v:Nat} (nP:(a==b)=false):(o=⟨b,v⟩)=False/\((⟨b,v⟩:Id)=o)=False:=by
 have h1:=Ad h (v:=v) nP
 refine⟨h1,?_⟩
 simp only[eq_iff_iff,iff_false]at h1 ⊢
 exact fun h=>h1 h.symm
theorem vN (cnt:Nat) (zC:1<=cnt) (hn:cnt<=1048576) (bs:List PB) (hb:∀b∈bs,b.a<cnt/\b.b<cnt) (nQ:bs.length<=1048576):aq Tryz.prog 240 [.int .i64 cnt,.sl (bs.map aA)] (.sl ((fw cnt (eA bs)).map Av)):=by
 intro n0
 refine CR N4 rfl fun hl=>?_
 try simp only[q]
 clear hl
 have jG:(0:Int)<=(cnt:Int):=by omega
 have pS:(cnt:Int)<=((16777216:Nat):Int):=by omega
 obtain⟨G,hG⟩:∃G:Nat->Id,G=fun k=>⟨240005004,n0+3+4*k+2⟩:=⟨_,rfl⟩
 have SM:∀k,(G k).site=240005004:=fun k=>by rw[hG]
 have T9:∀k,(G k).bm=n0+3+4*k+2:=fun k=>by rw[hG]
 have T7:∀i j,i≠j->(G i=G j)=False:=fun i j h=>by
  simp only[eq_iff_iff,iff_false]
  intro he
  have h1:=T9 i
  rw[he,T9 j]at h1
  omega
 have Ln:∀i s v,(240005004==s)=false->(G i=⟨s,v⟩)=False:=fun i s v h=>Ad (SM i) h
 have hz:=Hs G cnt
 (try((repeat(revert hN;revert N;apply Pn.out));refine wk (tw @jG (tw @pS (tw @Int.le_refl @hz))) ?_;(repeat(refine Pn.mk ?_;intro N hN))))
 refine aM (fun n env st=>∃k:Nat,n=(cnt)-k/\k<=(cnt)/\env 21=.int .i64 (k:Int)/\st.get ⟨240001001,n0+1⟩=some ⟨true,1,lV G cnt k⟩/\(st.next=n0+3+4*k/\∀j:Nat,j<k->st.get (G j)=some ⟨true,2,[[.gP,.int .i64 (j:Int)]]⟩)) (cnt) ⟨0,by omega,by omega,sl @hz,sl @hz,⟨rfl,fun j hj=>by omega⟩⟩ ?_
 rintro n_a env_a st_a ⟨k,rfl,ale,a21,ag0,kc⟩ di
 have a0:=di 0 (by kernel_rfl);have a1:=di 1 (by kernel_rfl);have a5:=di 5 (by kernel_rfl);have NR:=di 19 (by kernel_rfl);have a20:=di 20 (by kernel_rfl)
 simp only[go_sem, ↓reduceIte,Nat.reduceEqDiff,Nat.reduceAdd,Nat.reduceSub,Nat.reduceLeDiff,reduceCtorEq,hz]at a0 a1 a5 NR a20
 clear di
 obtain⟨kc,kN⟩:=kc
 by_cases hk:(k:Int)<(cnt:Int)
 ·have cz:∀{e:Env} {gg:Rows} {nx:Nat},(e 21=.int .i64 (IntKind.i64.wrap ((k:Int)+1)))->(gg ⟨240001001,n0+1⟩=some ⟨true,1,lV G cnt (k+1)⟩)->(nx=n0+3+4*(k+1)/\∀j:Nat,j<(k+1)->gg (G j)=some ⟨true,2,[[.gP,.int .i64 (j:Int)]]⟩)->∃m0,m0<(cnt)-k/\∃k:Nat,m0=(cnt)-k/\k<=(cnt)/\e 21=.int .i64 (k:Int)/\gg ⟨240001001,n0+1⟩=some ⟨true,1,lV G cnt k⟩/\(nx=n0+3+4*k/\∀j:Nat,j<k->gg (G j)=some ⟨true,2,[[.gP,.int .i64 (j:Int)]]⟩):=fun x1 x2 x3=>⟨_,by omega,k+1,rfl,by omega,(by rw[x1,az (by omega)]),x2,x3⟩
  have eX:k<cnt:=by omega
  have tl:=mv G cnt k
  have dS:=Kc (G:=G) eX
  have eM:(lV G cnt k)[k]? =some [.gP]:=by simp[lV,eX]
  have SK:(⟨240005004,st_a.next+1+1⟩:Id)=G k:=by rw[hG,kc]
  have hGf:∀j,j<k->(G j=G k)=False:=fun j hj=>T7 j k (by omega)
  have zy:∀j,(G j=(⟨240001001,n0+1⟩:Id))=False:=fun j=>Ln j _ _ (by decide)
  have Dx:∀j,((⟨240001001,n0+1⟩:Id)=G j)=False:=fun j=>by
   have:=zy j
   simp only[eq_iff_iff,iff_false]at this ⊢
   exact fun h=>this h.symm
  (try((repeat(revert hN;revert N;apply Pn.out));refine wk (tw @a21 (tw @ag0 (tw @a0 (tw @a1 (tw @a5 (tw @NR (tw @a20 (tw @hk (tw @tl (tw @SK (tw @zy (tw @Dx (tw @dS @eM))))))))))))) ?_;(repeat(refine Pn.mk ?_;intro N hN))))
  refine cz ?_ ?_ (by
   refine⟨by(try dsimp only)<;>omega,fun j hj=>?_⟩
   by_cases ym:j=k
   ·subst ym;simp only[go_sem, ↓reduceIte,Nat.reduceEqDiff,Nat.reduceAdd,Nat.reduceSub,Nat.reduceLeDiff,reduceCtorEq,SK,zy,Dx]
   ·have hold:=kN j (by omega)
    have gY:=hGf j (by omega)
    simp only[go_sem, ↓reduceIte,Nat.reduceEqDiff,Nat.reduceAdd,Nat.reduceSub,Nat.reduceLeDiff,reduceCtorEq,SK,zy,Dx,gY,hold])
  all_goals simp only[go_sem, ↓reduceIte,Nat.reduceEqDiff,Nat.reduceAdd,Nat.reduceSub,Nat.reduceLeDiff,reduceCtorEq,a21,ag0,a0,a1,a5,NR,a20,SK,zy,Dx,dS]
 have kH:cnt=k:=by omega
 subst kH
 (try((repeat(revert hN;revert N;apply Pn.out));refine wk (tw @a21 (tw @ag0 (tw @a0 (tw @a1 (tw @a5 (tw @NR (tw @a20 @hk))))))) ?_;(repeat(refine Pn.mk ?_;intro N hN))))
 refine aM (fun n env st=>∃i:Nat,n=(bs.length)-i/\i<=(bs.length)/\env 33=.int .i64 (i:Int)/\st.get ⟨240001001,n0+1⟩=some ⟨true,1,lV G cnt cnt⟩/\(n0+3+4*cnt<=st.next)/\(∃px,nA cnt px (eA (bs.take i))/\uc st.get G cnt px)) (bs.length) ⟨0,by omega,by omega,sl (tw @a21 (tw @ag0 (tw @a0 (tw @a1 (tw @a5 (tw @NR @a20)))))),sl (tw @a21 (tw @ag0 (tw @a0 (tw @a1 (tw @a5 (tw @NR @a20)))))),(by(try dsimp only);omega),⟨fun _=>none,nA.start cnt,kN⟩⟩ ?_
 rintro n_b env_b st_b ⟨i,rfl,ble,ue,bg0,bI0,bI1⟩ e9
 have b0:=e9 0 (by kernel_rfl);have b1:=e9 1 (by kernel_rfl);have b5:=e9 5 (by kernel_rfl);have xT:=e9 31 (by kernel_rfl);have tz:=e9 32 (by kernel_rfl)
 simp only[go_sem, ↓reduceIte,Nat.reduceEqDiff,Nat.reduceAdd,Nat.reduceSub,Nat.reduceLeDiff,reduceCtorEq,a21,ag0,a0,a1,a5,NR,a20]at b0 b1 b5 xT tz
 clear e9
 obtain⟨px,KJ,SL⟩:=bI1
 have tl:=mv G cnt cnt
 have QY:∀j v,(G j=(⟨240009002,v⟩:Id))=False:=fun j v=>Ln j _ v (by decide)
 have zy:∀j v,(G j=(⟨240001001,v⟩:Id))=False:=fun j v=>Ln j _ v (by decide)
 have Dx:∀j v,((⟨240001001,v⟩:Id)=G j)=False:=fun j v=>by
  have:=zy j v
  simp only[eq_iff_iff,iff_false]at this ⊢
  exact fun h=>this h.symm
 have hGn:∀j,j<cnt->(G j).bm<st_b.next:=fun j hj=>by rw[T9];omega
 by_cases hi:(i:Int)<(bs.length:Int)
 ·have fJ:∀{e:Env} {gg:Rows} {nx:Nat},(e 33=.int .i64 (IntKind.i64.wrap ((i:Int)+1)))->(gg ⟨240001001,n0+1⟩=some ⟨true,1,lV G cnt cnt⟩)->(n0+3+4*cnt<=nx)->(∃px,nA cnt px (eA (bs.take (i+1)))/\uc gg G cnt px)->∃m0,m0<(bs.length)-i/\∃i:Nat,m0=(bs.length)-i/\i<=(bs.length)/\e 33=.int .i64 (i:Int)/\gg ⟨240001001,n0+1⟩=some ⟨true,1,lV G cnt cnt⟩/\(n0+3+4*cnt<=nx)/\(∃px,nA cnt px (eA (bs.take i))/\uc gg G cnt px):=fun x1 x2 x3 x4=>⟨_,by omega,i+1,rfl,by omega,(by rw[x1,az (by omega)]),x2,x3,x4⟩
  have fU:i<bs.length:=by omega
  have ku:(bs.map aA)[i]? =some (aA bs[i]):=by simp[fU]
  have Gx:=hb _ (List.getElem_mem fU)
  have oN:bs.take (i+1)=bs.take i++[bs[i]]:=List.take_succ_eq_append_getElem fU
  have lI:eA (bs.take (i+1))=eO (eA (bs.take i)) bs[i]:=by rw[oN,wb]
  have hL:=tQ (bs.take i)
  generalize eA (bs.take i)=L at *
  generalize bs[i]=b at *
  have gA:=xb (G:=G) Gx.1
  have gB:=xb (G:=G) Gx.2
  have gJ:(b.a:Int)<(cnt:Int):=by omega
  have fx:(b.b:Int)<(cnt:Int):=by omega
  (try((repeat(revert hN;revert N;apply Pn.out));refine wk (tw @ue (tw @bg0 (tw @b0 (tw @b1 (tw @b5 (tw @xT (tw @tz (tw @hi (tw @ku (tw @aA.eq_1 (tw @gA (tw @gB (tw @gJ (tw @fx @tl)))))))))))))) ?_;(repeat(refine Pn.mk ?_;intro N hN))))
  refine ET (fun e s=>e 0=.int .i64 cnt/\e 1=.sl (bs.map aA)/\e 5=.own ⟨240001001,n0+1⟩ 0 cnt/\e 31=.sl (bs.map aA)/\e 32=.int .i64 bs.length/\e 33=.int .i64 i/\e 9=.ptr (G (L b.a)) 0 0/\e 10=.ptr (G (L b.b)) 0 0/\(∀j:Id,j.bm<st_b.next->s.get j=st_b.get j)/\st_b.next<=s.next) ?_ ?_
  ·rintro e1 s1 ⟨m0,m1,m5,m31,m32,m33,m9,m10,mf,mn⟩
   refine hN _ _ ?_
   clear hN N
   have mG:uc s1.get G cnt px:=SL.frame fun k hk=>mf _ (hGn k hk)
   have mt:=(mf ⟨240001001,n0+1⟩ (by(try dsimp only);omega)).trans bg0
   have UP:L b.a<cnt:=Nat.lt_of_le_of_lt (hL.le _) Gx.1
   have Ru:L b.b<cnt:=Nat.lt_of_le_of_lt (hL.le _) Gx.2
   have ra:=mG _ UP
   have rb:=mG _ Ru
   rw[lG (KJ.root hL UP (hL.idem _))]at ra
   rw[lG (KJ.root hL Ru (hL.idem _))]at rb
   have put:∀(g':Rows) (lo hi:Nat),hi<cnt->g' (G hi)=some ⟨true,2,[[.ptr (G lo) 0 0,.int .i64 (hi:Int)]]⟩->(∀k,k≠hi->k<cnt->g' (G k)=s1.get (G k))->uc g' G cnt (fun k=>if k=hi then some lo else px k):=fun g' lo hi _ h1 h2 k hk=>by
    by_cases KH:k=hi
    ·subst KH;rw[h1,tL (j:=lo) (if_pos rfl)]
    ·rw[h2 k KH hk,mG k hk]
     unfold sV
     simp only[if_neg KH]
   rcases Nat.lt_trichotomy (L b.a) (L b.b)with dR|heq|dR
   ·have OM:(L b.a:Int)<(L b.b:Int):=by omega
    have hj:=KJ.join hL b (by omega)
    rw[Nat.max_eq_right (by omega),Nat.min_eq_left (by omega),<-lI]at hj
    (try((repeat(revert hN;revert N;apply Pn.out));refine wk (tw @m0 (tw @m1 (tw @m5 (tw @m31 (tw @m32 (tw @m33 (tw @m9 (tw @m10 (tw @ra (tw @rb @OM)))))))))) ?_;(repeat(refine Pn.mk ?_;intro N hN))))
    refine fJ ?_ ?_ (by(try dsimp only);omega) (⟨_,hj,put _ _ _ Ru (sd @Nat.zero_add) (fun k hk _=>by
     have gY:=T7 k _ hk
     simp only[go_sem, ↓reduceIte,Nat.reduceEqDiff,Nat.reduceAdd,Nat.reduceSub,Nat.reduceLeDiff,reduceCtorEq,gY])⟩)
    all_goals simp only[go_sem, ↓reduceIte,Nat.reduceEqDiff,Nat.reduceAdd,Nat.reduceSub,Nat.reduceLeDiff,reduceCtorEq,m0,m1,m5,m31,m32,m33,mt,zy,Dx]
   ·have zC:¬(L b.a:Int)<(L b.b:Int):=by omega
    have OQ:¬(L b.b:Int)<(L b.a:Int):=by omega
    have LJ:=zI heq
    rw[LJ]at lI
    (try((repeat(revert hN;revert N;apply Pn.out));refine wk (tw @m0 (tw @m1 (tw @m5 (tw @m31 (tw @m32 (tw @m33 (tw @m9 (tw @m10 (tw @ra (tw @rb (tw @zC @OQ))))))))))) ?_;(repeat(refine Pn.mk ?_;intro N hN))))
    refine fJ ?_ ?_ (by(try dsimp only);omega) (⟨_,lI▸KJ,mG.frame fun k hk=>rfl⟩)
    all_goals simp only[go_sem, ↓reduceIte,Nat.reduceEqDiff,Nat.reduceAdd,Nat.reduceSub,Nat.reduceLeDiff,reduceCtorEq,m0,m1,m5,m31,m32,m33,mt]
   ·have OM:(L b.b:Int)<(L b.a:Int):=by omega
    have zC:¬(L b.a:Int)<(L b.b:Int):=by omega
    have hj:=KJ.join hL b (by omega)
    rw[Nat.max_eq_left (by omega),Nat.min_eq_right (by omega),<-lI]at hj
    (try((repeat(revert hN;revert N;apply Pn.out));refine wk (tw @m0 (tw @m1 (tw @m5 (tw @m31 (tw @m32 (tw @m33 (tw @m9 (tw @m10 (tw @ra (tw @rb (tw @OM @zC))))))))))) ?_;(repeat(refine Pn.mk ?_;intro N hN))))
    refine fJ ?_ ?_ (by(try dsimp only);omega) (⟨_,hj,put _ _ _ UP (sd @Nat.zero_add) (fun k hk _=>by
     have gY:=T7 k _ hk
     simp only[go_sem, ↓reduceIte,Nat.reduceEqDiff,Nat.reduceAdd,Nat.reduceSub,Nat.reduceLeDiff,reduceCtorEq,gY])⟩)
    all_goals simp only[go_sem, ↓reduceIte,Nat.reduceEqDiff,Nat.reduceAdd,Nat.reduceSub,Nat.reduceLeDiff,reduceCtorEq,m0,m1,m5,m31,m32,m33,mt,zy,Dx]
  ·intro N hN
   refine e8 ?_ ?_<;>(try((repeat(revert hN;revert N;apply Pn.out));refine wk (tw @ue (tw @bg0 (tw @b0 (tw @b1 (tw @b5 (tw @xT (tw @tz (tw @hi (tw @ku (tw @aA.eq_1 (tw @gA (tw @gB (tw @gJ (tw @fx @tl)))))))))))))) ?_;(repeat(refine Pn.mk ?_;intro N hN))))<;>(try refine e8 ?_ ?_)<;>(try((repeat(revert hN;revert N;apply Pn.out));refine wk (tw @ue (tw @bg0 (tw @b0 (tw @b1 (tw @b5 (tw @xT (tw @tz (tw @hi (tw @ku (tw @aA.eq_1 (tw @gA (tw @gB (tw @gJ (tw @fx @tl)))))))))))))) ?_;(repeat(refine Pn.mk ?_;intro N hN))))<;>(try refine e8 ?_ ?_)<;>(try((repeat(revert hN;revert N;apply Pn.out));refine wk (tw @ue (tw @bg0 (tw @b0 (tw @b1 (tw @b5 (tw @xT (tw @tz (tw @hi (tw @ku (tw @aA.eq_1 (tw @gA (tw @gB (tw @gJ (tw @fx @tl)))))))))))))) ?_;(repeat(refine Pn.mk ?_;intro N hN))))
   all_goals
    refine .inr (aI _ _ _ _ _ (fun r σ1 hq=>?_) (zm G cnt px L KJ b.a Gx.1 _ (SL.frame fun k hk=>sd @QY)))
    obtain⟨g1,x1⟩:=σ1
    obtain⟨rfl,Ay,Lx⟩:=hq
    (try dsimp only at Ay Lx)
    subst Ay
    refine hN _ _ ?_
    clear hN N
    (try((repeat(revert hN;revert N;apply Pn.out));refine wk (tw @ue (tw @bg0 (tw @b0 (tw @b1 (tw @b5 (tw @xT (tw @tz (tw @hi (tw @ku (tw @aA.eq_1 (tw @gA (tw @gB (tw @gJ (tw @fx @tl)))))))))))))) ?_;(repeat(refine Pn.mk ?_;intro N hN))))
    refine .inr (aI _ _ _ _ _ (fun r σ1 hq=>?_) (zm G cnt px L KJ b.b Gx.2 _ (SL.frame fun k hk=>sd @QY)))
    obtain⟨g1,x2⟩:=σ1
    obtain⟨rfl,Ay,mV⟩:=hq
    (try dsimp only at Ay mV)
    subst Ay
    refine hN _ _ ?_
    clear hN N
    (try((repeat(revert hN;revert N;apply Pn.out));refine wk (tw @ue (tw @bg0 (tw @b0 (tw @b1 (tw @b5 (tw @xT (tw @tz (tw @hi (tw @ku (tw @aA.eq_1 (tw @gA (tw @gB (tw @gJ (tw @fx @tl)))))))))))))) ?_;(repeat(refine Pn.mk ?_;intro N hN))))
    exact⟨sd (tw @ue (tw @bg0 (tw @b0 (tw @b1 (tw @b5 (tw @xT @tz)))))),sd (tw @ue (tw @bg0 (tw @b0 (tw @b1 (tw @b5 (tw @xT @tz)))))),sd (tw @ue (tw @bg0 (tw @b0 (tw @b1 (tw @b5 (tw @xT @tz)))))),sd (tw @ue (tw @bg0 (tw @b0 (tw @b1 (tw @b5 (tw @xT @tz)))))),sd (tw @ue (tw @bg0 (tw @b0 (tw @b1 (tw @b5 (tw @xT @tz)))))),sd (tw @ue (tw @bg0 (tw @b0 (tw @b1 (tw @b5 (tw @xT @tz)))))),sd (tw @ue (tw @bg0 (tw @b0 (tw @b1 (tw @b5 (tw @xT @tz)))))),sd (tw @ue (tw @bg0 (tw @b0 (tw @b1 (tw @b5 (tw @xT @tz)))))),fun j hj=>by
     have hv:=dx hj
     simp only[go_sem, ↓reduceIte,Nat.reduceEqDiff,Nat.reduceAdd,Nat.reduceSub,Nat.reduceLeDiff,reduceCtorEq,hv],by(try dsimp only);omega⟩
 have nG:i=bs.length:=by omega
 subst nG
 rw[List.take_length]at KJ
 have hL:=tQ bs
 generalize eA bs=L at *
 (try((repeat(revert hN;revert N;apply Pn.out));refine wk (tw @ue (tw @bg0 (tw @b0 (tw @b1 (tw @b5 (tw @xT (tw @tz (tw @hi @tl)))))))) ?_;(repeat(refine Pn.mk ?_;intro N hN))))
 have l0:kT 0 L=[]:=rfl
 have oS:(none:Option Nat).isSome=false:=rfl
 have oT:∀a:Nat,(some a).isSome=true:=fun _=>rfl
 refine aM (fun n env st=>∃x:Nat,n=(cnt)-x/\x<=(cnt)/\env 81=.int .i64 (x:Int)/\st.get ⟨240001001,n0+1⟩=some ⟨true,1,lV G cnt cnt⟩/\st.get ⟨240017000,st_b.next+1+1⟩=some ⟨true,mI.lT,kT x L⟩/\(st_b.next+3<=st.next/\uc st.get G cnt px)/\((x=0/\env 11=.bV)∨∃o:Id,env 11=.own o 0 (leads x L).length/\FY st.get o (jJ x L) st.next)) (cnt) ⟨0,by omega,by omega,sl (tw @ue (tw @bg0 (tw @b0 (tw @b1 (tw @b5 (tw @xT (tw @tz @l0))))))),sl (tw @ue (tw @bg0 (tw @b0 (tw @b1 (tw @b5 (tw @xT (tw @tz @l0))))))),sl (tw @ue (tw @bg0 (tw @b0 (tw @b1 (tw @b5 (tw @xT (tw @tz @l0))))))),⟨by(try dsimp only);omega,SL.frame fun k hk=>by(have gY:=Ln k 240017000 (st_b.next+1+1) (by decide));simp only[go_sem, ↓reduceIte,Nat.reduceEqDiff,Nat.reduceAdd,Nat.reduceSub,Nat.reduceLeDiff,reduceCtorEq,gY]⟩,.inl ⟨rfl,sd @Nat.zero_add⟩⟩ ?_
 rintro n_c env_c st_c ⟨x,rfl,cle,c81,cg0,cg1,cI0,cI1⟩ iL
 have qn:=iL 12 (by kernel_rfl);have K4:=iL 79 (by kernel_rfl);have K5:=iL 80 (by kernel_rfl)
 simp only[go_sem, ↓reduceIte,Nat.reduceEqDiff,Nat.reduceAdd,Nat.reduceSub,Nat.reduceLeDiff,reduceCtorEq,ue,bg0,b0,b1,b5,xT,tz,l0]at qn K4 K5
 clear iL
 obtain⟨pj,QL⟩:=cI0
 have Ov:∀j v,(G j=(⟨240017000,v⟩:Id))=False:=fun j v=>Ln j _ v (by decide)
 have Oo:∀j v,(G j=(⟨240025002,v⟩:Id))=False:=fun j v=>Ln j _ v (by decide)
 have Ot:∀j v,(G j=(⟨240025001,v⟩:Id))=False:=fun j v=>Ln j _ v (by decide)
 have Ou:∀j v,(G j=(⟨240026007,v⟩:Id))=False:=fun j v=>Ln j _ v (by decide)
 have Oq:∀j v,(G j=(⟨240026008,v⟩:Id))=False:=fun j v=>Ln j _ v (by decide)
 by_cases hx:(x:Int)<(cnt:Int)
 ·have gG:∀{e:Env} {gg:Rows} {nx:Nat},(e 81=.int .i64 (IntKind.i64.wrap ((x:Int)+1)))->(gg ⟨240001001,n0+1⟩=some ⟨true,1,lV G cnt cnt⟩)->(gg ⟨240017000,st_b.next+1+1⟩=some ⟨true,mI.lT,kT (x+1) L⟩)->(st_b.next+3<=nx/\uc gg G cnt px)->(((x+1)=0/\e 11=.bV)∨∃o:Id,e 11=.own o 0 (leads (x+1) L).length/\FY gg o (jJ (x+1) L) nx)->∃m0,m0<(cnt)-x/\∃x:Nat,m0=(cnt)-x/\x<=(cnt)/\e 81=.int .i64 (x:Int)/\gg ⟨240001001,n0+1⟩=some ⟨true,1,lV G cnt cnt⟩/\gg ⟨240017000,st_b.next+1+1⟩=some ⟨true,mI.lT,kT x L⟩/\(st_b.next+3<=nx/\uc gg G cnt px)/\((x=0/\e 11=.bV)∨∃o:Id,e 11=.own o 0 (leads x L).length/\FY gg o (jJ x L) nx):=fun x1 x2 x3 x4 x5=>⟨_,by omega,x+1,rfl,by omega,(by rw[x1,az (by omega)]),x2,x3,x4,x5⟩
  have Qx:x<cnt:=by omega
  have gX:=xb (G:=G) Qx
  have hlx:L x<cnt:=Nat.lt_of_le_of_lt (hL.le _) Qx
  have ra:=QL _ hlx
  rw[lG (KJ.root hL hlx (hL.idem _))]at ra
  have lH:=jM x L
  (try((repeat(revert hN;revert N;apply Pn.out));refine wk (tw @c81 (tw @cg0 (tw @cg1 (tw @qn (tw @K4 (tw @K5 (tw @hx (tw @gX @tl)))))))) ?_;(repeat(refine Pn.mk ?_;intro N hN))))
  refine .inr (aI _ _ _ _ _ (fun r σ1 hq=>?_) (zm G cnt px L KJ x Qx _ (QL.frame fun k hk=>sd @Nat.zero_add)))
  obtain⟨g1,x1⟩:=σ1
  obtain⟨rfl,Ay,Lx⟩:=hq
  (try dsimp only at Ay Lx)
  subst Ay
  refine hN _ _ ?_
  clear hN N
  by_cases hr:L x=x
  ·rw[hr]at ra ⊢
   have mE:=GW hr
   have Tb:(leads (x+1) L).length=(leads x L).length+1:=by rw[gO,if_pos hr];simp
   have Qs:=Ea hr
   have S6:=Dt hL hr
   rcases cI1 with⟨rfl,nL⟩|⟨o,nL,cS⟩
   ·have U9:kT 1 L=[[.int .i64 ((0:Nat):Int),.int .i64 ((0:Nat):Int)]]:=Qs
    (try((repeat(revert hN;revert N;apply Pn.out));refine wk (tw @c81 (tw @cg0 (tw @cg1 (tw @qn (tw @K4 (tw @K5 (tw @nL (tw @ra (tw @mE (tw @l0 (tw @oS (tw @oT (tw @Bool.not_false @Bool.not_true))))))))))))) ?_;(repeat(refine Pn.mk ?_;intro N hN))))
    refine gG ?_ ?_ ?_ (by(try dsimp only);exact⟨by omega,QL.frame fun k hk=>sd (tw @Ov (tw @Oo (tw @Oq (tw @Ot @Ou))))⟩) (.inr ⟨⟨240025002,x1+1+1+1+1⟩,by simp only[go_sem, ↓reduceIte,Nat.reduceEqDiff,Nat.reduceAdd,Nat.reduceSub,Nat.reduceLeDiff,reduceCtorEq,Tb];rfl,by rw[S6];exact Lk (v':=x1+1+1+1+1+1) (sd @Nat.zero_add) (sd @eN.eq_1) (by(try dsimp only);omega) (by(try dsimp only);omega)⟩)
    all_goals simp only[go_sem, ↓reduceIte,Nat.reduceEqDiff,Nat.reduceAdd,Nat.reduceSub,Nat.reduceLeDiff,reduceCtorEq,c81,cg0,cg1,qn,K4,K5,U9]
   ·obtain⟨rows,um,sI,kQ⟩:=cS.new x
    rw[qE]at sI
    have BB:o.site=240025002:=by obtain⟨_,_,_,_,_,_,h,_⟩:=cS;exact h
    have rS:o.bm<x1:=by obtain⟨_,_,_,_,_,_,_,h⟩:=cS;omega
    have qK:=dx rS
    have RA:=gH (o:=o) BB (b:=240017000) (v:=st_b.next+1+1) (by decide)
    have Qm:=gH (o:=o) BB (b:=240001001) (v:=n0+1) (by decide)
    have Ow:∀k,(G k=o)=False:=fun k=>by simp only[eq_iff_iff,iff_false];intro h;have h1:=SM k;rw[h,BB]at h1;cases h1
    have sG:(rows++[[AV.bV]])[(leads x L).length]? =some [.bV]:=by rw[<-sI];simp
    have BI:∀a:List AV,(rows++[[AV.bV]]).set (leads x L).length a=rows++[a]:=fun a=>by rw[<-sI];simp
    have e1:(leads x L).length+1<=16777216:=by omega
    have e2:((leads x L).length:Int)<(((leads x L).length+1:Nat):Int):=by omega
    (try((repeat(revert hN;revert N;apply Pn.out));refine wk (tw @c81 (tw @cg0 (tw @cg1 (tw @qn (tw @K4 (tw @K5 (tw @nL (tw @ra (tw @mE (tw @um (tw @sI (tw @qK (tw @RA (tw @sG (tw @BI (tw @e1 (tw @e2 (tw @oS (tw @oT (tw @Bool.not_false @Bool.not_true)))))))))))))))))))) ?_;(repeat(refine Pn.mk ?_;intro N hN))))
    refine gG ?_ ?_ ?_ (by(try dsimp only);exact⟨by omega,QL.frame fun k hk=>sd (tw @Ov (tw @Oo (tw @Oq (tw @Ot (tw @Ou @Ow)))))⟩) (.inr ⟨⟨240025002,x1+1+1+1+1⟩,sd @Tb,by rw[S6];exact kQ _ _ (x1+1+1+1+1+1) _ (by omega) (by(try dsimp only);omega) (by(try dsimp only);omega) (sd @BI) (sd @eN.eq_1) (fun j hj hv=>by
     have q1:=dx (i:=j) (n:=x1) (by omega)
     have q2:=gH hj (b:=240017000) (v:=st_b.next+1+1) (by decide)
     have q3:(j=o)=False:=by simp only[eq_iff_iff,iff_false];intro h;rw[h,BB]at hj;cases hj
     simp only[go_sem, ↓reduceIte,Nat.reduceEqDiff,Nat.reduceAdd,Nat.reduceSub,Nat.reduceLeDiff,reduceCtorEq,q1,q2,q3])⟩)
    all_goals simp only[go_sem, ↓reduceIte,Nat.reduceEqDiff,Nat.reduceAdd,Nat.reduceSub,Nat.reduceLeDiff,reduceCtorEq,c81,cg0,cg1,qn,K4,K5,Qs,qK,RA,Qm]
  ·obtain⟨mE,Ja,dR⟩:=yD hL hr
   obtain⟨Ro,S6⟩:=Du hL hr
   have Tb:(leads (x+1) L).length=(leads x L).length:=by rw[gO,if_neg hr];simp
   have LJ:=D9 hr
   rcases cI1 with⟨rfl,nL⟩|⟨o,nL,cS⟩
   ·exact absurd (Nat.le_zero.1 (hL.le 0)) hr
   ·obtain⟨rows,id,um,sI,hrk,hid,IY,hidv,Uu⟩:=cS.add Ro x
    rw[qE]at sI
    have BB:o.site=240025002:=by obtain⟨_,_,_,_,_,_,h,_⟩:=cS;exact h
    have rS:o.bm<x1:=by obtain⟨_,_,_,_,_,_,_,h⟩:=cS;omega
    have qK:=dx rS
    have vU:=dx (i:=id) (n:=x1) (by omega)
    have ku:(bQ L x:Int)<((leads x L).length:Int):=by omega
    have Rx:=B7 x L (L x)
    have hma:((members x L (L x)).map eN).length=(members x L (L x)).length:=by simp
    have e1:(members x L (L x)).length+1<=16777216:=by omega
    have Qn:(o=id)=False:=by simp only[eq_iff_iff,iff_false];rintro rfl;rw[IY]at BB;cases BB
    have Qg:(id=o)=False:=by simp only[eq_iff_iff,iff_false];rintro rfl;rw[IY]at BB;cases BB
    have RA:=gH (o:=o) BB (b:=240017000) (v:=st_b.next+1+1) (by decide)
    have Qm:=gH (o:=o) BB (b:=240001001) (v:=n0+1) (by decide)
    have hiM:=gH (o:=id) IY (b:=240017000) (v:=st_b.next+1+1) (by decide)
    have hiT:=gH (o:=id) IY (b:=240001001) (v:=n0+1) (by decide)
    have Ow:∀k,(G k=o)=False:=fun k=>by simp only[eq_iff_iff,iff_false];intro h;have h1:=SM k;rw[h,BB]at h1;cases h1
    have T8:∀k,(G k=id)=False:=fun k=>by simp only[eq_iff_iff,iff_false];intro h;have h1:=SM k;rw[h,IY]at h1;cases h1
    (try((repeat(revert hN;revert N;apply Pn.out));refine wk (tw @c81 (tw @cg0 (tw @cg1 (tw @qn (tw @K4 (tw @K5 (tw @nL (tw @ra (tw @mE (tw @Ja (tw @um (tw @sI (tw @hrk (tw @hid (tw @qK (tw @vU (tw @ku (tw @hma (tw @e1 (tw @Qn (tw @Qg (tw @RA (tw @Qm (tw @hiM (tw @hiT (tw @oS (tw @oT (tw @Bool.not_false @Bool.not_true)))))))))))))))))))))))))))) ?_;(repeat(refine Pn.mk ?_;intro N hN))))
    refine gG ?_ ?_ ?_ (by(try dsimp only);exact⟨by omega,QL.frame fun k hk=>sd (tw @Ov (tw @Oo (tw @Oq (tw @Ot (tw @Ou (tw @Ow @T8))))))⟩) (.inr ⟨o,sd (tw @Tb @nL),by rw[S6];exact Uu _ (x1+1+1) _ (by omega) (by(try dsimp only);omega) (sd @Nat.zero_add) (sd (tw @qK (tw @vU (tw @Qn @Qg)))) (fun j hj hv mD=>by
     have q1:=dx (i:=j) (n:=x1) (by omega)
     have q2:=gH hj (b:=240017000) (v:=st_b.next+1+1) (by decide)
     have q3:(j=o)=False:=by simp only[eq_iff_iff,iff_false];intro h;rw[h,BB]at hj;cases hj
     simp only[go_sem, ↓reduceIte,Nat.reduceEqDiff,Nat.reduceAdd,Nat.reduceSub,Nat.reduceLeDiff,reduceCtorEq,q1,q2,q3,mD])⟩)
    all_goals simp only[go_sem, ↓reduceIte,Nat.reduceEqDiff,Nat.reduceAdd,Nat.reduceSub,Nat.reduceLeDiff,reduceCtorEq,c81,cg0,cg1,qn,K4,K5,LJ,qK,vU,RA,Qm,hiM,hiT]
 have Vh:x=cnt:=by omega
 rcases cI1 with⟨h0,_⟩|⟨o,nL,rows,ids,um,hR,_,_,_,_⟩
 ·omega
 have sI:=hR.len
 rw[qE]at sI
 (try((repeat(revert hN;revert N;apply Pn.out));refine wk (tw @c81 (tw @cg0 (tw @cg1 (tw @qn (tw @K4 (tw @K5 (tw @hx (tw @nL @um)))))))) ?_;(repeat(refine Pn.mk ?_;intro N hN))))
 refine wS (.inl rfl) (by simp only[go_sem, ↓reduceIte,Nat.reduceEqDiff,Nat.reduceAdd,Nat.reduceSub,Nat.reduceLeDiff,reduceCtorEq];rfl) ?_
 rw[uE um (by omega) (rows':=(fw cnt L).map Av) (by
  rw[List.drop_zero,List.take_of_length_le (by omega)]
  rw[Vh]at hR;exact Jq 3 hR)]
theorem Ks (b:PB) (t:Int):aq Tryz.prog 243 [.agg (aA b),.dm [.int .i64 t]] (.bool (decide (b.s<t))):=by
 refine aq.body eL rfl fun hl n0=>?_
 clear hl
 (try((repeat(revert hN;revert N;apply Pn.out));refine wk @aA.eq_1 ?_;(repeat(refine Pn.mk ?_;intro N hN))))
 exact aX (b:=decide (b.s<t)) (.inl rfl) (sd @Nat.zero_add) rfl
theorem yy (bs:List PB) (t:Int) (hl:bs.length<=1048576):aq Tryz.prog 263 [.sl (bs.map aA),.fn 243 [.dm [.int .i64 t]]] (.int .i64 (kf (fun b:PB=>decide (b.s<t)) bs)):=
 tP Iv (show mO Tryz.prog 263=some (vZ 263 3 true) by kernel_rfl) bs hl 243 _ _ (fun x _=>Ks x t) fun g=>by simp only[ai,ao,aQ,Option.map_some]
theorem Ir (bs:List PB) (hp:0<bs.length) (hl:bs.length<=1048576) (σ:ar):
  Call Tryz.prog 242 [.sl (bs.map aA)] σ fun r σ'=>∃o:Id,r=.own o 0 bs.length/\σ'.get o=some ⟨true,3,bs.map aA⟩/\σ.next<=o.bm/\o.bm<σ'.next/\∀i:Id,i.bm<σ.next->σ'.get i=σ.get i:=by
 refine eV eL rfl fun hl=>?_
 clear hl
 have hz:=all_map (l:=bs) NJ
 obtain⟨b,r,rfl⟩:∃b r,bs=b::r:=by
  cases bs with
  |nil=>simp at hp
  |cons b r=>exact⟨b,r,rfl⟩
 have lH:(List.map aA (b::r)).length=(b::r).length:=by simp
 have e1:r.length<=16777215:=by simp at hl;omega
 rw[List.map_cons]at hz lH ⊢
 (try((repeat(revert hN;revert N;apply Pn.out));refine wk (tw @hz (tw @lH @e1)) ?_;(repeat(refine Pn.mk ?_;intro N hN))))
 refine fb (.inl rfl) (vs:=[.own ⟨242003002,σ.next+1+1⟩ 0 (b::r).length]) (by simp only[fq,iu,go_sem, ↓reduceIte,Nat.reduceEqDiff,Nat.reduceAdd,Nat.reduceSub,Nat.reduceLeDiff,reduceCtorEq,List.length_cons]) ⟨⟨242003002,σ.next+1+1⟩,rfl,sd @Nat.zero_add,by(try dsimp only);omega,by(try dsimp only);omega,fun i hi=>?_⟩
 have hv:=dx hi
 simp only[go_sem, ↓reduceIte,Nat.reduceEqDiff,Nat.reduceAdd,Nat.reduceSub,Nat.reduceLeDiff,reduceCtorEq,hv]
theorem o5 {t:Int} {bs:List PB} {j:Nat} (hj:j<bs.length):aJ t (bs.take (j+1))=aJ t (bs.take j)++if decide (bs[j].s<t)=true then[]else[bs[j]]:=by
 rw[tZ t bs j hj]
 congr 1
 by_cases h:bs[j].s<t
 ·rw[if_neg (by omega),if_pos (decide_eq_true h)]
 ·rw[if_pos (by omega),if_neg (by simp only[decide_eq_true_eq];exact h)]
theorem tY {t:Int} {bs:List PB} (h:∀b∈bs,¬b.s<t):aJ t bs=bs:=by
 unfold aJ
 rw[List.filter_eq_self]
 intro b hb
 have:=h b hb
 exact decide_eq_true (by omega)
structure ub (t:Int) (bs:List PB) (j:Nat) (R:List PB):Prop where
 len:R.length=bs.length
 pre:R.take (aJ t (bs.take j)).length=aJ t (bs.take j)
 post:∀x,j<=x->R[x]? =bs[x]?
 lt:(aJ t (bs.take j)).length<j
theorem ub.start {t:Int} {bs:List PB} {i:Nat} (hi:i<bs.length) (hw:bs[i].s<t) (hp:∀x (h:x<i),¬bs[x].s<t):ub t bs (i+1) bs/\(aJ t (bs.take (i+1))).length=i:=by
 have h1:aJ t (bs.take i)=bs.take i:=tY fun b hb=>by
  obtain⟨x,hx,rfl⟩:=List.getElem_of_mem hb
  rw[List.length_take]at hx
  rw[List.getElem_take]
  exact hp x (by omega)
 have h2:aJ t (bs.take (i+1))=bs.take i:=by rw[o5 hi,if_pos (decide_eq_true hw),List.append_nil,h1]
 have h3:(bs.take i).length=i:=by rw[List.length_take];omega
 exact⟨⟨rfl,by rw[h2,h3],fun _ _=>rfl,by rw[h2,h3];omega⟩,by rw[h2,h3]⟩
theorem ub.Sp {t:Int} {bs R:List PB} {j:Nat} (h:ub t bs j R) (hj:j<bs.length) (hw:bs[j].s<t):ub t bs (j+1) R/\(aJ t (bs.take (j+1))).length=(aJ t (bs.take j)).length:=by
 have h2:aJ t (bs.take (j+1))=aJ t (bs.take j):=by rw[o5 hj,if_pos (decide_eq_true hw),List.append_nil]
 exact⟨⟨h.len,by rw[h2];exact h.pre,fun x hx=>h.post x (by omega),by rw[h2];have:=h.lt;omega⟩,by rw[h2]⟩
theorem ub.uu {t:Int} {bs R:List PB} {j:Nat} (h:ub t bs j R) (hj:j<bs.length) (hw:¬bs[j].s<t):ub t bs (j+1) (R.set (aJ t (bs.take j)).length bs[j])/\(aJ t (bs.take (j+1))).length=(aJ t (bs.take j)).length+1:=by
 have h2:aJ t (bs.take (j+1))=aJ t (bs.take j)++[bs[j]]:=by rw[o5 hj,if_neg (by simp only[decide_eq_true_eq];exact hw)]
 have dR:=h.lt
 have hlen:=h.len
 have uo:=h.pre
 generalize hc:(aJ t (bs.take j)).length=c at *
 refine⟨⟨by rw[List.length_set];exact hlen,?_,fun x hx=>?_,by rw[h2,List.length_append,hc];simp;omega⟩,by rw[h2,List.length_append,hc];rfl⟩
 ·rw[h2,List.length_append,hc,List.length_singleton,List.take_succ_eq_append_getElem (by rw[List.length_set];omega),List.getElem_set_self,List.take_set_of_le (Nat.le_refl _),uo]
 ·rw[List.getElem?_set_ne (by omega)];exact h.post x (by omega)
theorem ub.at_ {t:Int} {bs R:List PB} {j:Nat} (h:ub t bs j R) (hj:j<bs.length):(R.map aA)[j]? =some (aA bs[j]):=by
 rw[List.getElem?_map,h.post j (Nat.le_refl j),List.getElem?_eq_getElem hj];rfl
theorem Dj {p:PB->Bool} {bs:List PB} (h:¬0<=kf p bs):∀b∈bs,p b=false:=by
 intro b hb
 unfold kf at h
 split at h
 ·omega
 ·rename_i h1
  rw[List.findIdx_lt_length]at h1
  cases hp:p b
  ·rfl
  ·exact absurd ⟨b,hb,hp⟩ h1
theorem Dk {p:PB->Bool} {bs:List PB} (h:0<=kf p bs):∃i,∃hi:i<bs.length,kf p bs=(i:Int)/\p bs[i]=true/\∀x (hx:x<i),p (bs[x]'(by omega))=false:=by
 unfold kf at h ⊢
 split
 ·rename_i h1
  exact⟨bs.findIdx p,h1,rfl,List.findIdx_getElem,fun x hx=>by simpa using List.not_of_lt_findIdx hx⟩
 ·rename_i h1;rw[if_neg h1]at h;omega
theorem Gj (bs:List PB) (t:Int) (hl:bs.length<=1048576) (o T:Id) (σ:ar) (ho:σ.get o=some ⟨true,3,bs.map aA⟩) (hT:σ.get T=some ⟨true,1,[[.int .i64 t]]⟩) (rS:o.bm<σ.next) (Un:T.bm<σ.next) (Qm:o≠T):
  Call Tryz.prog 241 [.own o 0 bs.length,.fn 243 [.ptr T 0 0]] σ fun r σ'=>∃rows,r=.own o 0 (aJ t bs).length/\σ'.get o=some ⟨true,3,rows⟩/\rows.take (aJ t bs).length=(aJ t bs).map aA/\(aJ t bs).length<=rows.length/\σ.next<=σ'.next/\∀i:Id,i.bm<σ.next->i≠o->σ'.get i=σ.get i:=by
 refine eV eL rfl fun nS=>?_
 clear nS
 have CJ:=yy bs t hl
 have hzT:∀(g:Rows),g T=some ⟨true,1,[[.int .i64 t]]⟩->V.fz (dF g) 5 (.ptr T 0 0)=some (.dm [.int .i64 t]):=fun g hg=>zr (sz:=1) (rows:=[[.int .i64 t]]) (by simp[dF,hg]) rfl (by simp only[List.drop_zero,ai,ao,aG,Option.map_some])
 have yw:∀(g:Rows),g T=some ⟨true,1,[[.int .i64 t]]⟩->g o=some ⟨true,3,bs.map aA⟩->cG (dF g) 6 [.own o 0 bs.length,.fn 243 [.ptr T 0 0]]=some [.sl (bs.map aA),.fn 243 [.dm [.int .i64 t]]]:=fun g h1 h2=>by
  have q1:=fS (g:=dF g) (n:=5) (e:=aA) (sz:=3) (len:=bs.length) (l:=bs) (id:=o) (by simp[dF,h2]) rfl fun b=>zo _ 4 b
  have q2:=hzT g h1
  simp only[ai,ao,q1,cI,List.all_cons,List.all_nil,AV.cell,Bool.and_true,if_true,q2,Option.map_some]
 have kz:∀(g:Rows),g T=some ⟨true,1,[[.int .i64 t]]⟩->∀b:PB,cG (dF g) 6 [.agg (aA b),.ptr T 0 0]=some [.agg (aA b),.dm [.int .i64 t]]:=fun g h1 b=>by
  have q3:V.fz (dF g) 6 (.ptr T 0 0)=some (.dm [.int .i64 t]):=zr (sz:=1) (rows:=[[.int .i64 t]]) (by simp[dF,h1]) rfl (by simp only[List.drop_zero,ai,ao,aG,Option.map_some])
  simp only[ai,ao,aY,zo,q3,Option.map_some]
 (try((repeat(revert hN;revert N;apply Pn.out));refine wk @Nat.zero_add ?_;(repeat(refine Pn.mk ?_;intro N hN))))
 refine .inl ⟨_,aq.x CJ (yw _ hT ho),?_⟩
 refine hN _ _ ?_
 clear hN N
 by_cases h0:0<=kf (fun b:PB=>decide (b.s<t)) bs
 ·obtain⟨i,hi,GA,hpi,OY⟩:=Dk h0
  rw[GA]at *
  have Lz:decide ((i:Int)= -1)=false:=decide_eq_false (by omega)
  have RM:IntKind.i64.wrap ((i:Int)+1)=((i+1:Nat):Int):=az (by omega)
  obtain⟨dL,BI⟩:=ub.start (t:=t) hi (by simpa using hpi) (fun x hx=>by simpa using OY x hx)
  (try((repeat(revert hN;revert N;apply Pn.out));refine wk (tw @Lz @RM) ?_;(repeat(refine Pn.mk ?_;intro N hN))))
  refine aM (fun m env st=>∃(j:Nat) (R:List PB),m=bs.length-j/\env 6=.int .i64 (j:Int)/\env 5=.int .i64 ((aJ t (bs.take j)).length:Int)/\st.get o=some ⟨true,3,R.map aA⟩/\ub t bs j R/\j<=bs.length/\σ.next<=st.next/\∀x:Id,x.bm<σ.next->(x=o)=False->st.get x=σ.get x) (bs.length-(i+1)) ⟨i+1,bs,rfl,sd @RM,sd @BI,sd @ho,dL,by omega,by(try dsimp only);omega,fun x _ _=>sd @Nat.zero_add⟩ ?_
  rintro m env_b st_b ⟨j,R,rfl,b6,b5,bg,hD,gN,hle,lY⟩ e9
  have b0:=e9 0 (by kernel_rfl)
  have b1:=e9 1 (by kernel_rfl)
  simp only[go_sem, ↓reduceIte,Nat.reduceEqDiff,Nat.reduceAdd,Nat.reduceSub,Nat.reduceLeDiff,reduceCtorEq]at b0 b1
  clear e9
  have bT:=(lY T Un (by simp only[eq_iff_iff,iff_false];exact fun h=>Qm h.symm)).trans hT
  have kI:=dx (i:=o) (n:=st_b.next) (by omega)
  have Ve:=dx (i:=T) (n:=st_b.next) (by omega)
  have hRl:=hD.len
  have Uk:(R.map aA).length=bs.length:=by rw[List.length_map,hRl]
  have dR:=hD.lt
  by_cases hj:(j:Int)<(bs.length:Int)
  ·have iM:j<bs.length:=by omega
   have CH:=hD.at_ iM
   have O7:=Ks bs[j] t
   have Tq:IntKind.i64.wrap ((j:Int)+1)=((j+1:Nat):Int):=az (by omega)
   have hD1:=hD.Sp iM
   have hD2:=hD.uu iM
   generalize bs[j]=b at *
   (try((repeat(revert hN;revert N;apply Pn.out));refine wk (tw @b0 (tw @b1 (tw @b5 (tw @b6 (tw @bg (tw @hj (tw @CH (tw @aA.eq_1 (tw @kI (tw @Ve @Uk)))))))))) ?_;(repeat(refine Pn.mk ?_;intro N hN))))
   refine .inl ⟨_,aq.x O7 (kz _ (sd (tw @Ve @bT)) b),?_⟩
   refine hN _ _ ?_
   clear hN N
   by_cases hw:b.s<t
   ·obtain⟨T5,T4⟩:=hD1 hw
    have hd:decide (b.s<t)=true:=decide_eq_true hw
    (try((repeat(revert hN;revert N;apply Pn.out));refine wk (tw @b0 (tw @b1 (tw @b5 (tw @b6 (tw @hd @Tq))))) ?_;(repeat(refine Pn.mk ?_;intro N hN))))
    refine⟨_,?_,j+1,R,rfl,sd @Tq,sd (tw @b5 @T4),sd (tw @bg @kI),T5,by omega,by(try dsimp only);omega,fun x hx AF=>?_⟩
    ·omega
    ·have Qu:=dx (i:=x) (n:=st_b.next) (by omega)
     have:=lY x hx AF
     simp only[go_sem, ↓reduceIte,Nat.reduceEqDiff,Nat.reduceAdd,Nat.reduceSub,Nat.reduceLeDiff,reduceCtorEq,Qu,this]
   ·obtain⟨T5,T4⟩:=hD2 hw
    have hd:decide (b.s<t)=false:=decide_eq_false hw
    have Rb:((aJ t (bs.take j)).length:Int)<(bs.length:Int):=by omega
    have hwc:IntKind.i64.wrap (((aJ t (bs.take j)).length:Int)+1)=(((aJ t (bs.take j)).length+1:Nat):Int):=az (by omega)
    have dS:(R.map aA).set (aJ t (bs.take j)).length [.int .i64 (b.a:Int),.int .i64 (b.b:Int),.int .i64 b.s]=(R.set (aJ t (bs.take j)).length b).map aA:=by rw[List.map_set];rfl
    have Ng:∃y,(R.map aA)[(aJ t (bs.take j)).length]? =some (aA y):=⟨R[(aJ t (bs.take j)).length]'(by omega),by rw[List.getElem?_map,List.getElem?_eq_getElem (by omega)];rfl⟩
    obtain⟨y,Ng⟩:=Ng
    rw[aA]at Ng
    (try((repeat(revert hN;revert N;apply Pn.out));refine wk (tw @b0 (tw @b1 (tw @b5 (tw @b6 (tw @bg (tw @hd (tw @Tq (tw @hwc (tw @Rb (tw @dS (tw @Ng (tw @kI (tw @Ve @Uk))))))))))))) ?_;(repeat(refine Pn.mk ?_;intro N hN))))
    refine⟨_,?_,j+1,_,rfl,sd @Tq,sd (tw @hwc @T4),sd @dS,T5,by omega,by(try dsimp only);omega,fun x hx AF=>?_⟩
    ·omega
    ·have Qu:=dx (i:=x) (n:=st_b.next) (by omega)
     have:=lY x hx AF
     simp only[go_sem, ↓reduceIte,Nat.reduceEqDiff,Nat.reduceAdd,Nat.reduceSub,Nat.reduceLeDiff,reduceCtorEq,Qu,this,AF]
  ·have gN:j=bs.length:=by omega
   subst gN
   have uo:=hD.pre
   rw[List.take_length]at b5 dR uo
   have Rb:((aJ t bs).length:Int)<=(bs.length:Int):=by omega
   have SY:(aJ t bs).length<=bs.length:=by omega
   have qI:(aJ t bs).length+(bs.length-(aJ t bs).length)=bs.length:=by omega
   have BI:=ns t bs
   (try((repeat(revert hN;revert N;apply Pn.out));refine wk (tw @b0 (tw @b1 (tw @b5 (tw @b6 (tw @bg (tw @hj (tw @Uk (tw @Rb (tw @SY (tw @qI (tw @Nat.le_refl (tw @Nat.sub_zero (tw @Int.le_refl @kI))))))))))))) ?_;(repeat(refine Pn.mk ?_;intro N hN))))
   refine fb (.inl rfl) (vs:=[.own o 0 (aJ t bs).length]) (sd @Nat.zero_add) ⟨_,rfl,by simp only[go_sem, ↓reduceIte,Nat.reduceEqDiff,Nat.reduceAdd,Nat.reduceSub,Nat.reduceLeDiff,reduceCtorEq];rfl,?_,?_,by(try dsimp only);omega,fun x hx AF=>?_⟩
   ·have hm:List.take (aJ t bs).length (List.map aA R)=(aJ t bs).map aA:=by rw[<-List.map_take,uo]
    rw[hm,List.append_assoc,List.take_append_of_le_length (by simp),List.take_of_length_le (by simp)]
   ·have hm:List.take (aJ t bs).length (List.map aA R)=(aJ t bs).map aA:=by rw[<-List.map_take,uo]
    rw[hm]
    simp only[List.length_append,List.length_map]
    omega
   ·have RN:(x=o)=False:=by simp only[eq_iff_iff,iff_false];exact AF
    have:=lY x hx RN
    simp only[go_sem, ↓reduceIte,Nat.reduceEqDiff,Nat.reduceAdd,Nat.reduceSub,Nat.reduceLeDiff,reduceCtorEq,RN,this]
 ·have hn:=Dj h0
  have dL:=tY (t:=t) (bs:=bs) fun b hb=>by simpa using hn b hb
  have hd:decide (kf (fun b:PB=>decide (b.s<t)) bs= -1)=true:=decide_eq_true (by
   unfold kf at h0 ⊢
   split
   ·rename_i h;rw[if_pos h]at h0;omega
   ·rfl)
  (try((repeat(revert hN;revert N;apply Pn.out));refine wk @hd ?_;(repeat(refine Pn.mk ?_;intro N hN))))
  refine fb (.inl rfl) (vs:=[.own o 0 bs.length]) (sd @Nat.zero_add) ⟨bs.map aA,by rw[dL];rfl,sd @ho,by rw[dL,List.take_of_length_le (by simp)],by rw[dL];simp,by(try dsimp only);omega,fun x _ _=>rfl⟩
def Ae (bs:List PB):AV:=if bs=[]then .bV else .sl (bs.map aA)
theorem ME:Ae []=.bV:=rfl
theorem Af {bs:List PB} (h:0<bs.length):Ae bs=.sl (bs.map aA):=by
 unfold Ae
 rw[if_neg (by rintro rfl;simp at h)]
theorem xz (cnt:Nat) (zC:1<=cnt) (hn:cnt<=1048576) (bs:List PB) (hb:∀b∈bs,b.a<cnt/\b.b<cnt) (hp:0<bs.length) (nQ:bs.length<=1048576) (t:Int):aq Tryz.prog 221 [.int .i64 cnt,.sl (bs.map aA),.int .i64 t] (.iC [.int .i64 (leads cnt (eA (aJ t bs))).length,Ae (dv (eA (aJ t bs)) bs)]):=by
 refine aq.body eL rfl fun hl n0=>?_
 clear hl
 (try((repeat(revert hN;revert N;apply Pn.out));refine wk @Nat.zero_add ?_;(repeat(refine Pn.mk ?_;intro N hN))))
 refine .inr (aI _ _ _ _ _ (fun r σ1 hq=>?_) (Ir bs hp nQ _))
 obtain⟨o,rfl,ho,LD,LF,Rn⟩:=hq
 (try dsimp only at ho LD LF Rn)
 refine hN _ _ ?_
 clear hN N
 (try((repeat(revert hN;revert N;apply Pn.out));refine wk @Nat.zero_add ?_;(repeat(refine Pn.mk ?_;intro N hN))))
 refine .inr (aI _ _ _ _ _ (fun r σ2 hq=>?_) (Gj bs t nQ o ⟨221000000,n0⟩ _ ho (by rw[Rn _ (by(try dsimp only);omega)];simp only[go_sem, ↓reduceIte,Nat.reduceEqDiff,Nat.reduceAdd,Nat.reduceSub,Nat.reduceLeDiff,reduceCtorEq]) (by(try dsimp only);omega) (by(try dsimp only);omega) (by rintro rfl;simp only at LD;omega)))
 obtain⟨rows,rfl,e6,hrt,sI,mV,IW⟩:=hq
 (try dsimp only at mV IW)
 refine hN _ _ ?_
 clear hN N
 have HK:=vN cnt zC hn (aJ t bs) (fun b h=>hb b (w7 h)) (by have:=ns t bs;omega)
 have hL:=tQ (aJ t bs)
 have hz:∀x,cG (dF σ2.get) 6 [.int .i64 x,.own o 0 (aJ t bs).length]=some [.int .i64 x,.sl ((aJ t bs).map aA)]:=fun x=>by
  have:V.fz (dF σ2.get) 6 (.own o 0 (aJ t bs).length)=some (.sl ((aJ t bs).map aA)):=by
   rw[iw];simp only[dF,e6,Option.map_some,if_true]
   rw[if_pos (by omega),List.drop_zero,hrt,qC fun b=>zo _ 4 b];rfl
  simp only[ai,ao,aG,this,Option.map_some]
 (try((repeat(revert hN;revert N;apply Pn.out));refine wk @Nat.zero_add ?_;(repeat(refine Pn.mk ?_;intro N hN))))
 refine .inl ⟨_,aq.x HK (hz _),?_⟩
 refine hN _ _ ?_
 clear hN N
 generalize eA (aJ t bs)=L at *
 have sG:((fw cnt L).map Av).length=(leads cnt L).length:=by simp[fw]
 have Ta:=jM cnt L
 have jG:(0:Int)<=(cnt:Int):=by omega
 have pS:(cnt:Int)<=((16777216:Nat):Int):=by omega
 have gZ:List.replicate cnt [AV.int .i64 0]=dC (db cnt L 0 0) cnt:=by rw[xd,oR]
 (try((repeat(revert hN;revert N;apply Pn.out));refine wk (tw @jG (tw @pS (tw @Int.le_refl (tw @sG @gZ)))) ?_;(repeat(refine Pn.mk ?_;intro N hN))))
 refine aM (fun n env st=>∃i:Nat,n=((leads cnt L).length)-i/\i<=((leads cnt L).length)/\env 27=.int .i64 (i:Int)/\st.get ⟨221002001,σ2.next+1⟩=some ⟨true,1,dC (db cnt L i 0) cnt⟩/\(σ2.next+1<st.next)) ((leads cnt L).length) ⟨0,by omega,by omega,sl (tw @gZ @sG),sl (tw @gZ @sG),(by(try dsimp only);omega)⟩ ?_
 rintro n_c env_c st_c ⟨i,rfl,cle,c27,cg0,cI0⟩ iL
 have c1:=iL 1 (by kernel_rfl);have c8:=iL 8 (by kernel_rfl);have c9:=iL 9 (by kernel_rfl);have xu:=iL 25 (by kernel_rfl);have xw:=iL 26 (by kernel_rfl)
 simp only[go_sem, ↓reduceIte,Nat.reduceEqDiff,Nat.reduceAdd,Nat.reduceSub,Nat.reduceLeDiff,reduceCtorEq,gZ,sG]at c1 c8 c9 xu xw
 clear iL
 by_cases hi:(i:Int)<((leads cnt L).length:Int)
 ·have gG:∀{e:Env} {gg:Rows} {nx:Nat},(e 27=.int .i64 (IntKind.i64.wrap ((i:Int)+1)))->(gg ⟨221002001,σ2.next+1⟩=some ⟨true,1,dC (db cnt L (i+1) 0) cnt⟩)->(σ2.next+1<nx)->∃m0,m0<((leads cnt L).length)-i/\∃i:Nat,m0=((leads cnt L).length)-i/\i<=((leads cnt L).length)/\e 27=.int .i64 (i:Int)/\gg ⟨221002001,σ2.next+1⟩=some ⟨true,1,dC (db cnt L i 0) cnt⟩/\(σ2.next+1<nx):=fun x1 x2 x3=>⟨_,by omega,i+1,rfl,by omega,(by rw[x1,az (by omega)]),x2,x3⟩
  have fU:i<(leads cnt L).length:=by omega
  have ku:((fw cnt L).map Av)[i]? =some (Av (members cnt L (leads cnt L)[i])):=by simp[fw,fU]
  have sF:(leads cnt L).getD i 0=(leads cnt L)[i]:=by simp[List.getD_eq_getElem?_getD,fU]
  have AB:∀m,db cnt L i m=fun x=>if bQ L x<i then bQ L x else if x∈(members cnt L (leads cnt L)[i]).take m then i else 0:=fun m=>by unfold db;rw[sF]
  have rR:=fun x (hx:x<cnt)=>tb hL (n:=cnt) (k:=x) (i:=i) hx fU
  have lZ:(members cnt L (leads cnt L)[i]).Nodup:=List.nodup_range.filter _
  have OO:∀x∈members cnt L (leads cnt L)[i],x<cnt:=fun x hx=>(lK.1 hx).1
  have hMc:(members cnt L (leads cnt L)[i]).length<=cnt:=by
   have:=List.length_filter_le (fun k=>L k==(leads cnt L)[i]) (List.range cnt)
   simpa[members]using this
  generalize members cnt L (leads cnt L)[i]=M at *
  have CF:(M.map eN).length=M.length:=by simp
  (try((repeat(revert hN;revert N;apply Pn.out));refine wk (tw @c27 (tw @cg0 (tw @c1 (tw @c8 (tw @c9 (tw @xu (tw @xw (tw @hi (tw @sG (tw @ku (tw @Av.eq_1 @CF))))))))))) ?_;(repeat(refine Pn.mk ?_;intro N hN))))
  refine aM (fun n env st=>∃m:Nat,n=(M.length)-m/\m<=(M.length)/\env 34=.int .i64 (m:Int)/\st.get ⟨221002001,σ2.next+1⟩=some ⟨true,1,dC (db cnt L i m) cnt⟩/\(σ2.next+1<st.next)) (M.length) ⟨0,by omega,by omega,sl (tw @c27 (tw @cg0 (tw @c1 (tw @c8 (tw @c9 (tw @xu (tw @xw @CF))))))),sl (tw @c27 (tw @cg0 (tw @c1 (tw @c8 (tw @c9 (tw @xu (tw @xw @CF))))))),(by(try dsimp only);omega)⟩ ?_
  rintro n_d env_d st_d ⟨m,rfl,dle,d34,dg0,dI0⟩ dfr
  have d1:=dfr 1 (by kernel_rfl);have d8:=dfr 8 (by kernel_rfl);have d9:=dfr 9 (by kernel_rfl);have d10:=dfr 10 (by kernel_rfl);have d25:=dfr 25 (by kernel_rfl);have d26:=dfr 26 (by kernel_rfl);have d27:=dfr 27 (by kernel_rfl);have d32:=dfr 32 (by kernel_rfl);have d33:=dfr 33 (by kernel_rfl)
  simp only[go_sem, ↓reduceIte,Nat.reduceEqDiff,Nat.reduceAdd,Nat.reduceSub,Nat.reduceLeDiff,reduceCtorEq,c27,cg0,c1,c8,c9,xu,xw,CF]at d1 d8 d9 d10 d25 d26 d27 d32 d33
  clear dfr
  have tl:=gn (db cnt L i m) cnt
  by_cases hm:(m:Int)<(M.length:Int)
  ·have tU:∀{e:Env} {gg:Rows} {nx:Nat},(e 34=.int .i64 (IntKind.i64.wrap ((m:Int)+1)))->(gg ⟨221002001,σ2.next+1⟩=some ⟨true,1,dC (db cnt L i (m+1)) cnt⟩)->(σ2.next+1<nx)->∃m0,m0<(M.length)-m/\∃m:Nat,m0=(M.length)-m/\m<=(M.length)/\e 34=.int .i64 (m:Int)/\gg ⟨221002001,σ2.next+1⟩=some ⟨true,1,dC (db cnt L i m) cnt⟩/\(σ2.next+1<nx):=fun x1 x2 x3=>⟨_,by omega,m+1,rfl,by omega,(by rw[x1,az (by omega)]),x2,x3⟩
   have zB:m<M.length:=by omega
   have sH:(M.map eN)[m]? =some (eN M[m]):=by simp[zB]
   have vY:=OO _ (List.getElem_mem zB)
   have CN:(M[m]:Int)<(cnt:Int):=by omega
   have CL:=fm (f:=db cnt L i m) vY
   have dS:(dC (db cnt L i m) cnt).set M[m] (eN i)=dC (db cnt L i (m+1)) cnt:=pH vY (by
    have h1:=(rR _ vY).1 (List.getElem_mem zB)
    rw[AB]
    simp only[]
    rw[if_neg (by omega),if_pos (by rw[List.take_succ_eq_append_getElem zB];exact List.mem_append_right _ (List.mem_singleton.2 rfl))]) fun x hx gY=>by
    rw[AB,AB]
    simp only[]
    rw[List.take_succ_eq_append_getElem zB]
    simp only[List.mem_append,List.mem_singleton,gY,or_false]
   rw[eN]at dS CL
   generalize M[m]=xm at *
   (try((repeat(revert hN;revert N;apply Pn.out));refine wk (tw @d34 (tw @dg0 (tw @d1 (tw @d8 (tw @d9 (tw @d10 (tw @d25 (tw @d26 (tw @d27 (tw @d32 (tw @d33 (tw @hm (tw @hi (tw @sH (tw @CF (tw @CN (tw @CL (tw @tl (tw @dS @eN.eq_1))))))))))))))))))) ?_;(repeat(refine Pn.mk ?_;intro N hN))))
   refine tU ?_ ?_ (by(try dsimp only);omega)
   all_goals simp only[go_sem, ↓reduceIte,Nat.reduceEqDiff,Nat.reduceAdd,Nat.reduceSub,Nat.reduceLeDiff,reduceCtorEq,d34,dg0,d1,d8,d9,d10,d25,d26,d27,d32,d33,dS]
  ·have lH:m=M.length:=by omega
   subst lH
   have pj:dC (db cnt L i M.length) cnt=dC (db cnt L (i+1) 0) cnt:=gW fun x hx=>by
    rw[AB,List.take_length]
    simp only[db,List.take_zero,List.not_mem_nil,if_false]
    have h1:=rR x hx
    by_cases h2:bQ L x<i
    ·rw[if_pos h2,if_pos (by omega)]
    ·rw[if_neg h2]
     by_cases h3:x∈M
     ·rw[if_pos h3,if_pos (by have:=h1.1 h3;omega),h1.1 h3]
     ·rw[if_neg h3,if_neg fun h4=>h3 (h1.2 (by omega))]
   (try((repeat(revert hN;revert N;apply Pn.out));refine wk (tw @d34 (tw @dg0 (tw @d1 (tw @d8 (tw @d9 (tw @d10 (tw @d25 (tw @d26 (tw @d27 (tw @d32 (tw @d33 (tw @hm (tw @hi (tw @sG @CF)))))))))))))) ?_;(repeat(refine Pn.mk ?_;intro N hN))))
   refine gG ?_ ?_ (by(try dsimp only);omega)
   all_goals simp only[go_sem, ↓reduceIte,Nat.reduceEqDiff,Nat.reduceAdd,Nat.reduceSub,Nat.reduceLeDiff,reduceCtorEq,c27,cg0,c1,c8,c9,xu,xw,d34,dg0,d1,d8,d9,d10,d25,d26,d27,d32,d33,pj]
 have nG:i=(leads cnt L).length:=by omega
 subst nG
 have zD:dC (db cnt L (leads cnt L).length 0) cnt=dC (bQ L) cnt:=gW fun x hx=>by rw[db,if_pos (j8 hL hx)]
 rw[zD]at cg0
 have tl:=gn (bQ L) cnt
 have SU:(bs.map aA).length=bs.length:=by simp
 (try((repeat(revert hN;revert N;apply Pn.out));refine wk (tw @c27 (tw @cg0 (tw @c1 (tw @c8 (tw @c9 (tw @xu (tw @xw (tw @hi (tw @sG @SU))))))))) ?_;(repeat(refine Pn.mk ?_;intro N hN))))
 have SY:σ2.next+1<st_c.next:=cI0
 refine aM (fun n env st=>∃j:Nat,n=(bs.length)-j/\j<=(bs.length)/\env 46=.int .i64 (j:Int)/\st.get ⟨221002001,σ2.next+1⟩=some ⟨true,1,dC (bQ L) cnt⟩/\(st_c.next<=st.next/\((dv L (bs.take j)=[]/\env 14=.bV)∨∃p:Id,env 14=.own p 0 (dv L (bs.take j)).length/\st.get p=some ⟨true,3,(dv L (bs.take j)).map aA⟩/\st_c.next<=p.bm/\p.bm<st.next/\0<(dv L (bs.take j)).length))) (bs.length) ⟨0,by omega,by omega,sl (tw @c27 (tw @cg0 (tw @c1 (tw @c8 (tw @c9 (tw @xu (tw @xw @SU))))))),sl (tw @c27 (tw @cg0 (tw @c1 (tw @c8 (tw @c9 (tw @xu (tw @xw @SU))))))),⟨by(try dsimp only);omega,.inl ⟨rfl,by(simp only[go_sem, ↓reduceIte,Nat.reduceEqDiff,Nat.reduceAdd,Nat.reduceSub,Nat.reduceLeDiff,reduceCtorEq])⟩⟩⟩ ?_
 rintro n_f env_f st_f ⟨j,rfl,fle,f46,fg0,fI0⟩ ffr
 have f1:=ffr 1 (by kernel_rfl);have f8:=ffr 8 (by kernel_rfl);have f9:=ffr 9 (by kernel_rfl);have f44:=ffr 44 (by kernel_rfl);have f45:=ffr 45 (by kernel_rfl)
 simp only[go_sem, ↓reduceIte,Nat.reduceEqDiff,Nat.reduceAdd,Nat.reduceSub,Nat.reduceLeDiff,reduceCtorEq,c27,cg0,c1,c8,c9,xu,xw,SU]at f1 f8 f9 f44 f45
 clear ffr
 obtain⟨Qf,fO⟩:=fI0
 have GF:=dx (i:=⟨221002001,σ2.next+1⟩) (n:=st_f.next) (by(try dsimp only);omega)
 have BI:=(nr L (bs.take j)).1
 rw[List.length_take]at BI
 by_cases hj:(j:Int)<(bs.length:Int)
 ·have sa:∀{e:Env} {gg:Rows} {nx:Nat},(e 46=.int .i64 (IntKind.i64.wrap ((j:Int)+1)))->(gg ⟨221002001,σ2.next+1⟩=some ⟨true,1,dC (bQ L) cnt⟩)->(st_c.next<=nx/\((dv L (bs.take (j+1))=[]/\e 14=.bV)∨∃p:Id,e 14=.own p 0 (dv L (bs.take (j+1))).length/\gg p=some ⟨true,3,(dv L (bs.take (j+1))).map aA⟩/\st_c.next<=p.bm/\p.bm<nx/\0<(dv L (bs.take (j+1))).length))->∃m0,m0<(bs.length)-j/\∃j:Nat,m0=(bs.length)-j/\j<=(bs.length)/\e 46=.int .i64 (j:Int)/\gg ⟨221002001,σ2.next+1⟩=some ⟨true,1,dC (bQ L) cnt⟩/\(st_c.next<=nx/\((dv L (bs.take j)=[]/\e 14=.bV)∨∃p:Id,e 14=.own p 0 (dv L (bs.take j)).length/\gg p=some ⟨true,3,(dv L (bs.take j)).map aA⟩/\st_c.next<=p.bm/\p.bm<nx/\0<(dv L (bs.take j)).length)):=fun x1 x2 x3=>⟨_,by omega,j+1,rfl,by omega,(by rw[x1,az (by omega)]),x2,x3⟩
  have iM:j<bs.length:=by omega
  have CH:(bs.map aA)[j]? =some (aA bs[j]):=by simp[iM]
  have Lq:=hb _ (List.getElem_mem iM)
  have hs:=Ab L (bs.take j) bs[j]
  rw[<-List.take_succ_eq_append_getElem iM]at hs
  generalize bs[j]=b at *
  have hA:=fm (f:=bQ L) Lq.1
  have hB:=fm (f:=bQ L) Lq.2
  have gJ:(b.a:Int)<(cnt:Int):=by omega
  have fx:(b.b:Int)<(cnt:Int):=by omega
  rw[eN]at hA hB
  have e1:(dv L (bs.take j)).length+1<=16777216:=by omega
  have lH:((dv L (bs.take j)).map aA).length=(dv L (bs.take j)).length:=by simp
  by_cases he:bQ L b.a=bQ L b.b
  ·rw[if_pos he,List.append_nil]at hs
   have xk:decide ((bQ L b.a:Int)=(bQ L b.b:Int))=true:=decide_eq_true (by rw[he])
   (try((repeat(revert hN;revert N;apply Pn.out));refine wk (tw @f46 (tw @fg0 (tw @f1 (tw @f8 (tw @f9 (tw @f44 (tw @f45 (tw @hj (tw @CH (tw @hA (tw @hB (tw @gJ (tw @fx (tw @tl (tw @xk (tw @GF (tw @aA.eq_1 (tw @Bool.not_true @Bool.not_false)))))))))))))))))) ?_;(repeat(refine Pn.mk ?_;intro N hN))))
   refine sa ?_ ?_ (by(try dsimp only);exact⟨by omega,by
    rw[hs]
    rcases fO with⟨h1,h2⟩|⟨p,h1,h2,h3,h4,h5⟩
    ·exact .inl ⟨h1,sd @h2⟩
    ·have AD:=dx h4
     exact .inr ⟨p,sd @h1,sd (tw @h2 @AD),h3,by omega,h5⟩⟩)
   all_goals simp only[go_sem, ↓reduceIte,Nat.reduceEqDiff,Nat.reduceAdd,Nat.reduceSub,Nat.reduceLeDiff,reduceCtorEq,f46,fg0,f1,f8,f9,f44,f45,GF]
  ·rw[if_neg he]at hs
   have xk:decide ((bQ L b.a:Int)=(bQ L b.b:Int))=false:=decide_eq_false fun h=>he (by omega)
   rcases fO with⟨h1,f14⟩|⟨p,f14,fg,OV,I6,hp3⟩
   ·rw[h1]at hs
    (try((repeat(revert hN;revert N;apply Pn.out));refine wk (tw @f46 (tw @fg0 (tw @f1 (tw @f8 (tw @f9 (tw @f44 (tw @f45 (tw @f14 (tw @hj (tw @CH (tw @hA (tw @hB (tw @gJ (tw @fx (tw @tl (tw @xk (tw @GF (tw @aA.eq_1 (tw @Bool.not_true @Bool.not_false))))))))))))))))))) ?_;(repeat(refine Pn.mk ?_;intro N hN))))
    refine sa ?_ ?_ (by(try dsimp only);exact⟨by omega,.inr ⟨⟨221017015,st_f.next+1+1+1⟩,by rw[hs];simp only[go_sem, ↓reduceIte,Nat.reduceEqDiff,Nat.reduceAdd,Nat.reduceSub,Nat.reduceLeDiff,reduceCtorEq,List.nil_append,List.length_cons,List.length_nil],by rw[hs];simp only[go_sem, ↓reduceIte,Nat.reduceEqDiff,Nat.reduceAdd,Nat.reduceSub,Nat.reduceLeDiff,reduceCtorEq,aA,List.nil_append,List.map_cons,List.map_nil],by(try dsimp only);omega,by(try dsimp only);omega,by rw[hs];simp⟩⟩)
    all_goals simp only[go_sem, ↓reduceIte,Nat.reduceEqDiff,Nat.reduceAdd,Nat.reduceSub,Nat.reduceLeDiff,reduceCtorEq,f46,fg0,f1,f8,f9,f44,f45,GF]
   ·have x1:=dt (a:=⟨221002001,σ2.next+1⟩) (b:=p) (by(try dsimp only);omega)
    have AD:=dx I6
    (try((repeat(revert hN;revert N;apply Pn.out));refine wk (tw @f46 (tw @fg0 (tw @f1 (tw @f8 (tw @f9 (tw @f44 (tw @f45 (tw @f14 (tw @fg (tw @hj (tw @CH (tw @hA (tw @hB (tw @gJ (tw @fx (tw @tl (tw @xk (tw @x1 (tw @AD (tw @GF (tw @e1 (tw @lH (tw @aA.eq_1 (tw @Bool.not_true @Bool.not_false)))))))))))))))))))))))) ?_;(repeat(refine Pn.mk ?_;intro N hN))))
    refine sa ?_ ?_ (by(try dsimp only);exact⟨by omega,.inr ⟨⟨221017015,st_f.next+1+1+1⟩,by rw[hs,List.length_append];simp only[go_sem, ↓reduceIte,Nat.reduceEqDiff,Nat.reduceAdd,Nat.reduceSub,Nat.reduceLeDiff,reduceCtorEq,List.length_cons,List.length_nil],by rw[hs,List.map_append,List.map_cons,List.map_nil];simp only[go_sem, ↓reduceIte,Nat.reduceEqDiff,Nat.reduceAdd,Nat.reduceSub,Nat.reduceLeDiff,reduceCtorEq,aA],by(try dsimp only);omega,by(try dsimp only);omega,by rw[hs];simp⟩⟩)
    all_goals simp only[go_sem, ↓reduceIte,Nat.reduceEqDiff,Nat.reduceAdd,Nat.reduceSub,Nat.reduceLeDiff,reduceCtorEq,f46,fg0,f1,f8,f9,f44,f45,x1,GF]
 ·have gN:j=bs.length:=by omega
  subst gN
  rw[List.take_length]at fO
  rcases fO with⟨h1,f14⟩|⟨p,f14,fg,OV,I6,hp3⟩
  ·(try((repeat(revert hN;revert N;apply Pn.out));refine wk (tw @f46 (tw @fg0 (tw @f1 (tw @f8 (tw @f9 (tw @f44 (tw @f45 (tw @f14 (tw @hj @sG))))))))) ?_;(repeat(refine Pn.mk ?_;intro N hN))))
   refine jw (.inl rfl) (r1:=.int .i64 ((leads cnt L).length:Int)) (sd @Nat.zero_add) (by simp only[go_sem, ↓reduceIte,Nat.reduceEqDiff,Nat.reduceAdd,Nat.reduceSub,Nat.reduceLeDiff,reduceCtorEq];rfl) ?_
   simp only[eT,bB,cr,eC,j4,h1,ME,Option.map_some]
  ·(try((repeat(revert hN;revert N;apply Pn.out));refine wk (tw @f46 (tw @fg0 (tw @f1 (tw @f8 (tw @f9 (tw @f44 (tw @f45 (tw @f14 (tw @hj @sG))))))))) ?_;(repeat(refine Pn.mk ?_;intro N hN))))
   refine jw (.inl rfl) (r1:=.int .i64 ((leads cnt L).length:Int)) (sd @Nat.zero_add) (by simp only[go_sem, ↓reduceIte,Nat.reduceEqDiff,Nat.reduceAdd,Nat.reduceSub,Nat.reduceLeDiff,reduceCtorEq];rfl) ?_
   have h1:gy st_f.get 5 (.own p 0 (dv L bs).length)=some (.sl ((dv L bs).map aA)):=fI (sz:=3) fg rfl fun b=>uD _ 3 b
   simp only[eT,bB,cr,eC,h1,Af hp3,Option.map_some]
theorem xx (cnt:Nat) (zC:1<=cnt) (hn:cnt<=1048576) (t:Int):aq Tryz.prog 221 [.int .i64 cnt,.bV,.int .i64 t] (.iC [.int .i64 cnt,.bV]):=by
 refine aq.body eL rfl fun hl n0=>?_
 clear hl
 have h1:aq Tryz.prog 242 [.bV] .bV:=by
  refine aq.body eL rfl fun hl n0=>?_
  clear hl
  (try((repeat(revert hN;revert N;apply Pn.out));refine wk @Nat.zero_add ?_;(repeat(refine Pn.mk ?_;intro N hN))))
  exact wS (.inl rfl) (r0:=.bV) (sd @Nat.zero_add) (j4 _ _)
 have h2:aq Tryz.prog 241 [.bV,.fn 243 [.dm [.int .i64 t]]] .bV:=by
  have CJ:=(yy [] t (by simp)).cut mixed (.bV (.same _ .nil))
  refine aq.body eL rfl fun hl n0=>?_
  clear hl
  (try((repeat(revert hN;revert N;apply Pn.out));refine wk @Nat.zero_add ?_;(repeat(refine Pn.mk ?_;intro N hN))))
  refine .inl ⟨_,aq.x CJ (by simp only[ai,ao,aP,cI,aQ,List.all_cons,List.all_nil,AV.cell,Bool.and_true,if_true,Option.map_some]),?_⟩
  refine hN _ _ ?_
  clear hN N
  have hd:decide (kf (fun b:PB=>decide (b.s<t)) []= -1)=true:=rfl
  (try((repeat(revert hN;revert N;apply Pn.out));refine wk @hd ?_;(repeat(refine Pn.mk ?_;intro N hN))))
  exact wS (.inl rfl) (r0:=.bV) (sd @Nat.zero_add) (j4 _ _)
 have HK:=(vN cnt zC hn [] (fun b h=>by cases h) (by simp)).cut mixed (.same _ (.bV .nil))
 (repeat(first|((repeat(revert hN;revert N;apply Pn.out));refine wk @Nat.zero_add ?_;(repeat(refine Pn.mk ?_;intro N hN)))|((try apply Or.inl);refine⟨_,aq.x (h1) (sd @Nat.zero_add),?_⟩;refine hN _ _ ?_;clear hN N)))
 refine .inl ⟨_,aq.x h2 ?_,?_⟩
 ·have:V.fz (dF (bF (fun _=>none) ⟨221000000,n0⟩ ⟨true,1,[[.int .i64 t]]⟩)) 5 (.ptr ⟨221000000,n0⟩ 0 0)=some (.dm [.int .i64 t]):=zr (sz:=1) (rows:=[[.int .i64 t]]) (by simp[dF,bF]) rfl (by simp only[List.drop_zero,ai,ao,aG,Option.map_some])
  simp only[ai,ao,aP,cI,this,List.all_cons,List.all_nil,AV.cell,Bool.and_true,if_true,Option.map_some]
 refine hN _ _ ?_
 clear hN N
 have fx:eA ([]:List PB)=id:=rfl
 rw[fx]at HK
 have hL:jD id:=fx▸tQ ([]:List PB)
 have Qk:(leads cnt id).length=cnt:=by rw[leads,List.filter_eq_self.2 (fun a _=>by simp)];simp
 generalize (id:Nat->Nat)=L at *
 have sG:((fw cnt L).map Av).length=(leads cnt L).length:=by simp[fw]
 have Ta:=jM cnt L
 have jG:(0:Int)<=(cnt:Int):=by omega
 have pS:(cnt:Int)<=((16777216:Nat):Int):=by omega
 have gZ:List.replicate cnt [AV.int .i64 0]=dC (db cnt L 0 0) cnt:=by rw[xd,oR]
 (repeat(first|((repeat(revert hN;revert N;apply Pn.out));refine wk (tw @jG (tw @pS (tw @Int.le_refl (tw @sG @gZ)))) ?_;(repeat(refine Pn.mk ?_;intro N hN)))|((try apply Or.inl);refine⟨_,aq.x (HK) (sd (tw @jG (tw @pS (tw @Int.le_refl (tw @sG @gZ))))),?_⟩;refine hN _ _ ?_;clear hN N)))
 refine aM (fun n env st=>∃i:Nat,n=((leads cnt L).length)-i/\i<=((leads cnt L).length)/\env 27=.int .i64 (i:Int)/\st.get ⟨221002001,n0+1+1⟩=some ⟨true,1,dC (db cnt L i 0) cnt⟩/\(n0+1+1<st.next)) ((leads cnt L).length) ⟨0,by omega,by omega,sl (tw @gZ @sG),sl (tw @gZ @sG),(by(try dsimp only);omega)⟩ ?_
 rintro n_c env_c st_c ⟨i,rfl,cle,c27,cg0,cI0⟩ iL
 have c1:=iL 1 (by kernel_rfl);have c8:=iL 8 (by kernel_rfl);have c9:=iL 9 (by kernel_rfl);have xu:=iL 25 (by kernel_rfl);have xw:=iL 26 (by kernel_rfl)
 simp only[go_sem, ↓reduceIte,Nat.reduceEqDiff,Nat.reduceAdd,Nat.reduceSub,Nat.reduceLeDiff,reduceCtorEq,gZ,sG]at c1 c8 c9 xu xw
 clear iL
 by_cases hi:(i:Int)<((leads cnt L).length:Int)
 ·have gG:∀{e:Env} {gg:Rows} {nx:Nat},(e 27=.int .i64 (IntKind.i64.wrap ((i:Int)+1)))->(gg ⟨221002001,n0+1+1⟩=some ⟨true,1,dC (db cnt L (i+1) 0) cnt⟩)->(n0+1+1<nx)->∃m0,m0<((leads cnt L).length)-i/\∃i:Nat,m0=((leads cnt L).length)-i/\i<=((leads cnt L).length)/\e 27=.int .i64 (i:Int)/\gg ⟨221002001,n0+1+1⟩=some ⟨true,1,dC (db cnt L i 0) cnt⟩/\(n0+1+1<nx):=fun x1 x2 x3=>⟨_,by omega,i+1,rfl,by omega,(by rw[x1,az (by omega)]),x2,x3⟩
  have fU:i<(leads cnt L).length:=by omega
  have ku:((fw cnt L).map Av)[i]? =some (Av (members cnt L (leads cnt L)[i])):=by simp[fw,fU]
  have sF:(leads cnt L).getD i 0=(leads cnt L)[i]:=by simp[List.getD_eq_getElem?_getD,fU]
  have AB:∀m,db cnt L i m=fun x=>if bQ L x<i then bQ L x else if x∈(members cnt L (leads cnt L)[i]).take m then i else 0:=fun m=>by unfold db;rw[sF]
  have rR:=fun x (hx:x<cnt)=>tb hL (n:=cnt) (k:=x) (i:=i) hx fU
  have lZ:(members cnt L (leads cnt L)[i]).Nodup:=List.nodup_range.filter _
  have OO:∀x∈members cnt L (leads cnt L)[i],x<cnt:=fun x hx=>(lK.1 hx).1
  have hMc:(members cnt L (leads cnt L)[i]).length<=cnt:=by
   have:=List.length_filter_le (fun k=>L k==(leads cnt L)[i]) (List.range cnt)
   simpa[members]using this
  generalize members cnt L (leads cnt L)[i]=M at *
  have CF:(M.map eN).length=M.length:=by simp
  (try((repeat(revert hN;revert N;apply Pn.out));refine wk (tw @c27 (tw @cg0 (tw @c1 (tw @c8 (tw @c9 (tw @xu (tw @xw (tw @hi (tw @sG (tw @ku (tw @Av.eq_1 @CF))))))))))) ?_;(repeat(refine Pn.mk ?_;intro N hN))))
  refine aM (fun n env st=>∃m:Nat,n=(M.length)-m/\m<=(M.length)/\env 34=.int .i64 (m:Int)/\st.get ⟨221002001,n0+1+1⟩=some ⟨true,1,dC (db cnt L i m) cnt⟩/\(n0+1+1<st.next)) (M.length) ⟨0,by omega,by omega,sl (tw @c27 (tw @cg0 (tw @c1 (tw @c8 (tw @c9 (tw @xu (tw @xw @CF))))))),sl (tw @c27 (tw @cg0 (tw @c1 (tw @c8 (tw @c9 (tw @xu (tw @xw @CF))))))),(by(try dsimp only);omega)⟩ ?_
  rintro n_d env_d st_d ⟨m,rfl,dle,d34,dg0,dI0⟩ dfr
  have d1:=dfr 1 (by kernel_rfl);have d8:=dfr 8 (by kernel_rfl);have d9:=dfr 9 (by kernel_rfl);have d10:=dfr 10 (by kernel_rfl);have d25:=dfr 25 (by kernel_rfl);have d26:=dfr 26 (by kernel_rfl);have d27:=dfr 27 (by kernel_rfl);have d32:=dfr 32 (by kernel_rfl);have d33:=dfr 33 (by kernel_rfl)
  simp only[go_sem, ↓reduceIte,Nat.reduceEqDiff,Nat.reduceAdd,Nat.reduceSub,Nat.reduceLeDiff,reduceCtorEq,c27,cg0,c1,c8,c9,xu,xw,CF]at d1 d8 d9 d10 d25 d26 d27 d32 d33
  clear dfr
  have tl:=gn (db cnt L i m) cnt
  by_cases hm:(m:Int)<(M.length:Int)
  ·have tU:∀{e:Env} {gg:Rows} {nx:Nat},(e 34=.int .i64 (IntKind.i64.wrap ((m:Int)+1)))->(gg ⟨221002001,n0+1+1⟩=some ⟨true,1,dC (db cnt L i (m+1)) cnt⟩)->(n0+1+1<nx)->∃m0,m0<(M.length)-m/\∃m:Nat,m0=(M.length)-m/\m<=(M.length)/\e 34=.int .i64 (m:Int)/\gg ⟨221002001,n0+1+1⟩=some ⟨true,1,dC (db cnt L i m) cnt⟩/\(n0+1+1<nx):=fun x1 x2 x3=>⟨_,by omega,m+1,rfl,by omega,(by rw[x1,az (by omega)]),x2,x3⟩
   have zB:m<M.length:=by omega
   have sH:(M.map eN)[m]? =some (eN M[m]):=by simp[zB]
   have vY:=OO _ (List.getElem_mem zB)
   have CN:(M[m]:Int)<(cnt:Int):=by omega
   have CL:=fm (f:=db cnt L i m) vY
   have dS:(dC (db cnt L i m) cnt).set M[m] (eN i)=dC (db cnt L i (m+1)) cnt:=pH vY (by
    have h1:=(rR _ vY).1 (List.getElem_mem zB)
    rw[AB]
    simp only[]
    rw[if_neg (by omega),if_pos (by rw[List.take_succ_eq_append_getElem zB];exact List.mem_append_right _ (List.mem_singleton.2 rfl))]) fun x hx gY=>by
    rw[AB,AB]
    simp only[]
    rw[List.take_succ_eq_append_getElem zB]
    simp only[List.mem_append,List.mem_singleton,gY,or_false]
   rw[eN]at dS CL
   generalize M[m]=xm at *
   (try((repeat(revert hN;revert N;apply Pn.out));refine wk (tw @d34 (tw @dg0 (tw @d1 (tw @d8 (tw @d9 (tw @d10 (tw @d25 (tw @d26 (tw @d27 (tw @d32 (tw @d33 (tw @hm (tw @hi (tw @sH (tw @CF (tw @CN (tw @CL (tw @tl (tw @dS @eN.eq_1))))))))))))))))))) ?_;(repeat(refine Pn.mk ?_;intro N hN))))
   refine tU ?_ ?_ (by(try dsimp only);omega)
   all_goals simp only[go_sem, ↓reduceIte,Nat.reduceEqDiff,Nat.reduceAdd,Nat.reduceSub,Nat.reduceLeDiff,reduceCtorEq,d34,dg0,d1,d8,d9,d10,d25,d26,d27,d32,d33,dS]
  ·have lH:m=M.length:=by omega
   subst lH
   have pj:dC (db cnt L i M.length) cnt=dC (db cnt L (i+1) 0) cnt:=gW fun x hx=>by
    rw[AB,List.take_length]
    simp only[db,List.take_zero,List.not_mem_nil,if_false]
    have h1:=rR x hx
    by_cases h2:bQ L x<i
    ·rw[if_pos h2,if_pos (by omega)]
    ·rw[if_neg h2]
     by_cases h3:x∈M
     ·rw[if_pos h3,if_pos (by have:=h1.1 h3;omega),h1.1 h3]
     ·rw[if_neg h3,if_neg fun h4=>h3 (h1.2 (by omega))]
   (try((repeat(revert hN;revert N;apply Pn.out));refine wk (tw @d34 (tw @dg0 (tw @d1 (tw @d8 (tw @d9 (tw @d10 (tw @d25 (tw @d26 (tw @d27 (tw @d32 (tw @d33 (tw @hm (tw @hi (tw @sG @CF)))))))))))))) ?_;(repeat(refine Pn.mk ?_;intro N hN))))
   refine gG ?_ ?_ (by(try dsimp only);omega)
   all_goals simp only[go_sem, ↓reduceIte,Nat.reduceEqDiff,Nat.reduceAdd,Nat.reduceSub,Nat.reduceLeDiff,reduceCtorEq,c27,cg0,c1,c8,c9,xu,xw,d34,dg0,d1,d8,d9,d10,d25,d26,d27,d32,d33,pj]
 have nG:i=(leads cnt L).length:=by omega
 subst nG
 have zD:dC (db cnt L (leads cnt L).length 0) cnt=dC (bQ L) cnt:=gW fun x hx=>by rw[db,if_pos (j8 hL hx)]
 rw[zD]at cg0
 have tl:=gn (bQ L) cnt
 (try((repeat(revert hN;revert N;apply Pn.out));refine wk (tw @c27 (tw @cg0 (tw @c1 (tw @c8 (tw @c9 (tw @xu (tw @xw (tw @hi @sG)))))))) ?_;(repeat(refine Pn.mk ?_;intro N hN))))
 refine aM (fun n env st=>∃j:Nat,n=(0)-j/\j<=(0)/\env 46=.int .i64 (j:Int)/\env 14=.bV) (0) ⟨0,by omega,by omega,sl (tw @c27 (tw @cg0 (tw @c1 (tw @c8 (tw @c9 (tw @xu @xw)))))),sl (tw @c27 (tw @cg0 (tw @c1 (tw @c8 (tw @c9 (tw @xu @xw))))))⟩ ?_
 rintro n_f env_f st_f ⟨j,rfl,fle,f46,f14⟩ ffr
 have f8:=ffr 8 (by kernel_rfl);have f44:=ffr 44 (by kernel_rfl);have f45:=ffr 45 (by kernel_rfl)
 simp only[go_sem, ↓reduceIte,Nat.reduceEqDiff,Nat.reduceAdd,Nat.reduceSub,Nat.reduceLeDiff,reduceCtorEq,c27,cg0,c1,c8,c9,xu,xw]at f8 f44 f45
 clear ffr
 have hj:¬(j:Int)<((0:Nat):Int):=by omega
 (try((repeat(revert hN;revert N;apply Pn.out));refine wk (tw @f46 (tw @f14 (tw @f8 (tw @f44 (tw @f45 (tw @hj @sG)))))) ?_;(repeat(refine Pn.mk ?_;intro N hN))))
 refine jw (.inl rfl) (r1:=.int .i64 ((leads cnt L).length:Int)) (r2:=.bV) (sd @Nat.zero_add) (sd @Nat.zero_add) ?_
 simp only[eT,bB,cr,eC,j4,Qk,Option.map_some]
theorem zk (cnt:Nat) (zC:1<=cnt) (hn:cnt<=1048576) (bs:List PB) (hb:∀b∈bs,b.a<cnt/\b.b<cnt) (nQ:bs.length<=1048576) (t:Int):aq Tryz.prog 221 [.int .i64 cnt,Ae bs,.int .i64 t] (.iC [.int .i64 (leads cnt (eA (aJ t bs))).length,Ae (dv (eA (aJ t bs)) bs)]):=by
 cases bs with
 |nil=>
  have h:=xx cnt zC hn t
  have Qk:(leads cnt (eA (aJ t []))).length=cnt:=by
   show(leads cnt id).length=cnt
   rw[leads,List.filter_eq_self.2 (fun a _=>by simp)];simp
  rw[Qk]
  exact h
 |cons b r=>
  rw[Af (by simp)]
  exact xz cnt zC hn (b::r) hb (by simp) nQ t
end Go.Proofs.YtgoelphibofcmaaGreat.V

namespace Go.Proofs.YtgoelphibofcmaaGreat.V
open Go.RowKit
attribute [local irreducible] ek wpOps gq Call
attribute [local go_sem] aH fF eK ga fZ da upd ck K.av cH AV.cells AV.cell rowOf rowsOf part ld rowAt bF cj dy dW gU bG cX eh fY eU dn ea cV cU dH dI bJ aW cK bI cN cL dY eb dZ cJ bL cW dX bH aL cQ cC gT bj cF bK aT du bf dz AV.undef bw bE dM dU dE dJ cE ef ep cw ee ec cP cR List.getD_cons_zero List.getD_cons_succ List.getD_nil List.all_cons List.all_nil Bool.and_true Bool.true_and Bool.and_self Bool.not_true Bool.not_false Option.map_some Option.map_none Option.bind_some Option.bind_none List.length_cons List.length_nil List.take_succ_cons List.take_zero List.take_nil List.drop_succ_cons List.drop_zero List.drop_nil List.head?_cons List.map_cons List.map_nil List.getElem?_cons_zero List.getElem?_cons_succ List.cons_append List.nil_append List.append_nil List.length_map List.set_cons_zero List.set_cons_succ Nat.reduceMul eq_self Int.toNat_natCast Int.natCast_nonneg and_self true_and and_true decide_true decide_false Bool.false_eq_true Nat.zero_add Nat.add_zero List.contains_cons List.contains_nil Bool.or_false Bool.false_or beq_self_eq_true Nat.reduceBEq ne_eq not_true_eq_false not_false_eq_true Id.mk.injEq false_and and_false Nat.reduceLT Int.reduceLE Int.reduceLT Int.reduceToNat Int.reduceNeg Int.reduceAdd Nat.le_refl List.length_append beq_true beq_false Bool.not_eq_eq_eq_not or_false false_or dF ai ao aG aZ bt bW aP aY aQ aV cI bD
attribute [local go_sem] FR
section
attribute [-go_sem] dy
theorem Mg (n:Nat) (hn:n<=1048576):aq Tryz.prog 277 [.int .u64 1,.int .u64 n] (.iC [.int .u64 0,.int .u64 n]):=by
 refine aq.body eL rfl fun hl n0=>?_
 clear hl
 have b1:(BitVec.ofInt 64 (n:Int)&&& BitVec.ofInt 64 4294967295).toNat=n:=by
  rw[BitVec.toNat_and]
  have e1:(BitVec.ofInt 64 (n:Int)).toNat=n:=by rw[BitVec.toNat_ofInt];omega
  have e2:(BitVec.ofInt 64 4294967295).toNat=2 ^ 32-1:=by decide
  rw[e1,e2]
  exact Nat.and_two_pow_sub_one_of_lt_two_pow (by omega)
 have zn:IntKind.u64.wrap (n:Int)=n:=by rw[IntKind.wrap_u64];omega
 have i1:dy .and .u64 (n:Int) 4294967295=some (.int .u64 n):=by
  show some (AV.int .u64 (IntKind.u64.wrap (((BitVec.ofInt 64 (n:Int)&&& BitVec.ofInt 64 4294967295).toNat:Nat):Int)))= _
  rw[b1,zn]
 have i2:dy .and .u64 1 4294967295=some (.int .u64 1):=rfl
 have i3:dy .and .u64 0 4294967295=some (.int .u64 0):=rfl
 have i4:dy .mul .u64 1 (n:Int)=some (.int .u64 n):=by simp only[dy,Int.one_mul,zn]
 have i5:dy .mul .u64 0 (n:Int)=some (.int .u64 0):=by simp only[dy,Int.zero_mul];rfl
 have i6:dy .mul .u64 1 0=some (.int .u64 0):=rfl
 have i7:dy .mul .u64 0 0=some (.int .u64 0):=rfl
 have i8:dy .add .u64 0 0=some (.int .u64 0):=rfl
 have a3:Int.fdiv 1 (2 ^ min 32 64)=0:=by decide
 have a4:Int.fdiv (n:Int) (2 ^ min 32 64)=0:=by
  rw[Int.fdiv_eq_ediv_of_nonneg _ (by decide)]
  have h32:(2:Int) ^ min 32 64=4294967296:=by decide
  exact Int.ediv_eq_zero_of_lt (by omega) (by omega)
 have z1:Int.fdiv 0 (2 ^ min 32 64)=0:=by decide
 (try((repeat(revert hN;revert N;apply Pn.out));refine wk (tw @i1 (tw @i2 (tw @i3 (tw @i4 (tw @i5 (tw @i6 (tw @i7 (tw @i8 (tw @a3 (tw @a4 @z1)))))))))) ?_;(repeat(refine Pn.mk ?_;intro N hN))))
 refine jw (.inl rfl) (r1:=.int .u64 0) (r2:=.int .u64 n) (sd @Nat.zero_add) (sd @Nat.zero_add) ?_
 simp only[eT,bB,cr,eC,Option.map_some]
end
theorem R6 (n:Nat) (hn:n<=1048576):aq Tryz.prog 275 [.int .u64 1,.int .u64 n] (.iC [.int .u64 0,.int .u64 n]):=by
 refine aq.body eL rfl fun hl n0=>?_
 clear hl
 have h:=Mg n hn
 (repeat(first|((repeat(revert hN;revert N;apply Pn.out));refine wk @Nat.zero_add ?_;(repeat(refine Pn.mk ?_;intro N hN)))|((try apply Or.inl);refine⟨_,aq.x (h) (sd @Nat.zero_add),?_⟩;refine hN _ _ ?_;clear hN N)))
 refine jw (.inl rfl) (r1:=.int .u64 0) (r2:=.int .u64 n) (sd @Nat.zero_add) (sd @Nat.zero_add) ?_
 simp only[eT,bB,cr,eC,Option.map_some]
theorem JT (cnt:Nat) (zC:1<=cnt) (hn:cnt<=1048576) (v:Int) (x:Id) (σ:ar) (hx:σ.get x=some ⟨true,1,[[.int .i64 v]]⟩) (Vi:x.bm<σ.next):
  Call Tryz.prog 271 [.own x 0 1,.int .i64 cnt] σ fun r σ'=>∃o:Id,r=.own o 0 cnt/\σ'.get o=some ⟨true,1,List.replicate cnt [.int .i64 v]⟩/\σ.next<=o.bm/\o.bm<σ'.next/\∀i:Id,i.bm<σ.next->σ'.get i=σ.get i:=by
 refine eV eL rfl fun hl=>?_
 clear hl
 have h:=R6 cnt hn
 have w1:IntKind.u64.wrap (cnt:Int)=cnt:=by rw[IntKind.wrap_u64];omega
 have w2:IntKind.i64.wrap (cnt:Int)=cnt:=Kt (by omega)
 have w0:IntKind.u64.wrap ((1:Nat):Int)=1:=by decide
 have g1:¬(cnt:Int)<0:=by omega
 have g2:¬(9223372036854775807:Int)<cnt:=by omega
 have jG:(0:Int)<=(cnt:Int):=by omega
 have pS:(cnt:Int)<=((16777216:Nat):Int):=by omega
 have Qu:=dx Vi
 have sI:(List.replicate cnt [AV.int .i64 0]).length=cnt:=List.length_replicate
 have m1:min 1 cnt=1:=by omega
 (repeat(first|((repeat(revert hN;revert N;apply Pn.out));refine wk (tw @w0 (tw @w1 (tw @w2 (tw @g1 (tw @g2 (tw @jG (tw @pS (tw @Int.le_refl (tw @Nat.le_refl (tw @hx (tw @Qu (tw @sI @m1)))))))))))) ?_;(repeat(refine Pn.mk ?_;intro N hN)))|((try apply Or.inl);refine⟨_,aq.x (h) (sd (tw @w0 (tw @w1 (tw @w2 (tw @g1 (tw @g2 (tw @jG (tw @pS (tw @Int.le_refl (tw @Nat.le_refl (tw @hx (tw @Qu (tw @sI @m1))))))))))))),?_⟩;refine hN _ _ ?_;clear hN N)))
 refine aM (fun m env st=>∃k:Nat,m=cnt-k/\1<=k/\k<=cnt/\env 8=.int .i64 (k:Int)/\st.get ⟨271006002,σ.next+1+1+1+1⟩=some ⟨true,1,List.replicate k [.int .i64 v]++List.replicate (cnt-k) [.int .i64 0]⟩/\σ.next+4<st.next/\∀i:Id,i.bm<σ.next->st.get i=σ.get i) (cnt-1) ⟨1,rfl,Nat.le_refl _,zC,by(simp only[go_sem, ↓reduceIte,Nat.reduceEqDiff,Nat.reduceAdd,Nat.reduceSub,Nat.reduceLeDiff,reduceCtorEq,m1])<;>rfl,?_,by(try dsimp only);omega,fun i hi=>?_⟩ ?_
 ·simp only[go_sem, ↓reduceIte,Nat.reduceEqDiff,Nat.reduceAdd,Nat.reduceSub,Nat.reduceLeDiff,reduceCtorEq]
  rw[List.drop_replicate];rfl
 ·have DU:=dx hi
  simp only[go_sem, ↓reduceIte,Nat.reduceEqDiff,Nat.reduceAdd,Nat.reduceSub,Nat.reduceLeDiff,reduceCtorEq,DU]
 rintro m env_b st_b ⟨k,rfl,rj,s4,b8,bg,bn,e9⟩ bkp
 have b7:=bkp 7 (by kernel_rfl)
 simp only[go_sem, ↓reduceIte,Nat.reduceEqDiff,Nat.reduceAdd,Nat.reduceSub,Nat.reduceLeDiff,reduceCtorEq]at b7
 clear bkp
 have RE:(List.replicate k [AV.int .i64 v]++List.replicate (cnt-k) [AV.int .i64 0]).length=cnt:=by simp;omega
 by_cases hk:(k:Int)<(cnt:Int)
 ·have eX:k<cnt:=by omega
  have xl:(k:Int)<=(cnt:Int):=by omega
  have hw:IntKind.i64.wrap ((k:Int)+((min k (cnt-k):Nat):Int))=((k+min k (cnt-k):Nat):Int):=by rw[bx (by omega)];omega
  have oN:List.take k (List.replicate k [AV.int .i64 v]++List.replicate (cnt-k) [AV.int .i64 0])=List.replicate k [AV.int .i64 v]:=List.take_left' (by simp)
  have dQ:(List.replicate k [AV.int .i64 v]).all (fun c=>c.length==1&&c.all AV.cell)=true:=List.all_eq_true.2 fun c hc=>by rw[List.eq_of_mem_replicate hc];rfl
  have hlr:(List.replicate k [AV.int .i64 v]).length=k:=List.length_replicate
  have O4:k+(cnt-k)=cnt:=by omega
  have rT:List.replicate k [AV.int .i64 v]++List.take (min k (cnt-k)) (List.replicate k [AV.int .i64 v])++List.drop (k+min k (cnt-k)) (List.replicate k [AV.int .i64 v]++List.replicate (cnt-k) [AV.int .i64 0])=List.replicate (k+min k (cnt-k)) [AV.int .i64 v]++List.replicate (cnt-(k+min k (cnt-k))) [AV.int .i64 0]:=by
   rw[List.take_replicate,List.drop_append,List.drop_of_length_le (by simp),List.nil_append,hlr,List.drop_replicate,List.replicate_append_replicate]
   congr 2
   ·omega
   ·omega
  (try((repeat(revert hN;revert N;apply Pn.out));refine wk (tw @b7 (tw @b8 (tw @bg (tw @RE (tw @hk (tw @xl (tw @s4 (tw @hw (tw @eX (tw @Nat.sub_zero (tw @oN (tw @dQ (tw @hlr (tw @O4 (tw @Nat.le_refl @rT))))))))))))))) ?_;(repeat(refine Pn.mk ?_;intro N hN))))
  refine⟨_,?_,k+min k (cnt-k),rfl,by omega,by omega,sd @hw,sd @rT,by(try dsimp only);omega,fun i hi=>?_⟩
  ·omega
  ·have DU:=dx hi
   have:=e9 i hi
   simp only[go_sem, ↓reduceIte,Nat.reduceEqDiff,Nat.reduceAdd,Nat.reduceSub,Nat.reduceLeDiff,reduceCtorEq,DU,this]
 ·have kH:k=cnt:=by omega
  subst kH
  (try((repeat(revert hN;revert N;apply Pn.out));refine wk (tw @b7 (tw @b8 (tw @bg (tw @RE @hk)))) ?_;(repeat(refine Pn.mk ?_;intro N hN))))
  refine fb (.inl rfl) (vs:=[.own ⟨271006002,σ.next+1+1+1+1⟩ 0 k]) (sd @Nat.zero_add) ⟨⟨271006002,σ.next+1+1+1+1⟩,rfl,by simp only[go_sem, ↓reduceIte,Nat.reduceEqDiff,Nat.reduceAdd,Nat.reduceSub,Nat.reduceLeDiff,reduceCtorEq,bg];simp,by(try dsimp only);omega,by(try dsimp only);omega,fun i hi=>e9 i hi⟩
end Go.Proofs.YtgoelphibofcmaaGreat.V

namespace Go.Proofs.YtgoelphibofcmaaGreat.V
open Go.RowKit
attribute [local irreducible] ek wpOps gq Call
attribute [local go_sem] aH fF eK ga fZ da upd ck K.av cH AV.cells AV.cell rowOf rowsOf part ld rowAt bF cj dy dW gU bG cX eh fY eU dn ea cV cU dH dI bJ aW cK bI cN cL dY eb dZ cJ bL cW dX bH aL cQ cC gT bj cF bK aT du bf dz AV.undef bw bE dM dU dE dJ cE ef ep cw ee ec cP cR List.getD_cons_zero List.getD_cons_succ List.getD_nil List.all_cons List.all_nil Bool.and_true Bool.true_and Bool.and_self Bool.not_true Bool.not_false Option.map_some Option.map_none Option.bind_some Option.bind_none List.length_cons List.length_nil List.take_succ_cons List.take_zero List.take_nil List.drop_succ_cons List.drop_zero List.drop_nil List.head?_cons List.map_cons List.map_nil List.getElem?_cons_zero List.getElem?_cons_succ List.cons_append List.nil_append List.append_nil List.length_map List.set_cons_zero List.set_cons_succ Nat.reduceMul eq_self Int.toNat_natCast Int.natCast_nonneg and_self true_and and_true decide_true decide_false Bool.false_eq_true Nat.zero_add Nat.add_zero List.contains_cons List.contains_nil Bool.or_false Bool.false_or beq_self_eq_true Nat.reduceBEq ne_eq not_true_eq_false not_false_eq_true Id.mk.injEq false_and and_false Nat.reduceLT Int.reduceLE Int.reduceLT Int.reduceToNat Int.reduceNeg Int.reduceAdd Nat.le_refl List.length_append beq_true beq_false Bool.not_eq_eq_eq_not or_false false_or dF ai ao aG aZ bt bW aP aY aQ aV cI bD
def lg (R:Nat->Id) (n k:Nat):List (List AV):=(List.range k).map fun i=>[.own (R i) 0 n]
theorem j9 (R:Nat->Id) (n k:Nat):(lg R n k).length=k:=by simp[lg]
theorem sq {R:Nat->Id} {n k i:Nat} (h:i<k):(lg R n k)[i]? =some [.own (R i) 0 n]:=by simp[lg,h]
theorem tn (R:Nat->Id) (n k:Nat):lg R n (k+1)=lg R n k++[[.own (R k) 0 n]]:=by simp[lg,List.range_succ]
def xO (c:Nat->Nat->Int) (n:Nat):List (List AV):=(List.range n).map fun i=>[.sl (dV (c i) n)]
theorem Ct {c:Nat->Nat->Int} {n i:Nat} (h:i<n):(xO c n)[i]? =some [.sl (dV (c i) n)]:=by simp[xO,h]
theorem xc (c:Nat->Nat->Int) (n:Nat):(xO c n).length=n:=by simp[xO]
structure F0 (X o1 o2:Id) (R1 R2:Nat->Id) (n nb:Nat):Prop where
 sx:X.site=245001001
 s1:o1.site=245004008
 s2:o2.site=245005008
 Tt:∀i,i<n->(R1 i).site=245004006
 ND:∀i,i<n->(R2 i).site=245005006
 i1:∀i j,i<n->j<n->R1 i=R1 j->i=j
 i2:∀i j,i<n->j<n->R2 i=R2 j->i=j
 vx:X.bm<nb
 v1:o1.bm<nb
 v2:o2.bm<nb
 Tx:∀i,i<n->(R1 i).bm<nb
 QD:∀i,i<n->(R2 i).bm<nb
structure nI (g:Rows) (X o1 o2:Id) (R1 R2:Nat->Id) (n:Nat) (c f:Nat->Nat->Int):Prop where
 x:g X=some ⟨true,2,[[.own o1 0 n,.own o2 0 n]]⟩
 t1:g o1=some ⟨true,1,lg R1 n n⟩
 t2:g o2=some ⟨true,1,lg R2 n n⟩
 r1:∀i,i<n->g (R1 i)=some ⟨true,1,dV (c i) n⟩
 r2:∀i,i<n->g (R2 i)=some ⟨true,1,dV (f i) n⟩
theorem nI.frame {g g':Rows} {X o1 o2:Id} {R1 R2:Nat->Id} {n nb:Nat} {c f:Nat->Nat->Int} (I:F0 X o1 o2 R1 R2 n nb) (h:nI g X o1 o2 R1 R2 n c f) (hf:∀i:Id,i.bm<nb->g' i=g i):nI g' X o1 o2 R1 R2 n c f:=
 ⟨(hf _ I.vx).trans h.x,(hf _ I.v1).trans h.t1,(hf _ I.v2).trans h.t2,fun i hi=>(hf _ (I.Tx i hi)).trans (h.r1 i hi),fun i hi=>(hf _ (I.QD i hi)).trans (h.r2 i hi)⟩
theorem ox {f:Nat->Nat->Int} {a b:Nat} {d:Int} {n:Nat} (hb:b<n):(dV (f a) n).set b (aw (f a b+d))=dV (bump f a b d a) n:=lh hb (by simp[bump]) fun i _ hi=>by simp[bump,hi]
theorem jY {f:Nat->Nat->Int} {a b i:Nat} {d:Int} (h:i≠a):bump f a b d i=f i:=by funext v;simp[bump,h]
theorem nI.add {g g':Rows} {X o1 o2:Id} {R1 R2:Nat->Id} {n nb:Nat} {c f:Nat->Nat->Int} (I:F0 X o1 o2 R1 R2 n nb) (h:nI g X o1 o2 R1 R2 n c f) (b:PB) (ha:b.a<n) (hb:b.b<n) (hA:b.a≠b.b->g' (R1 b.a)=some ⟨true,1,dV (bump c b.a b.b b.s b.a) n⟩) (hB:g' (R1 b.b)=some ⟨true,1,dV (nJ c b b.b) n⟩) (hf:∀i:Id,i.bm<nb->(i=R1 b.a)=False->(i=R1 b.b)=False->g' i=g i):nI g' X o1 o2 R1 R2 n (nJ c b) f:=by
 have ne:∀{i:Id} {s:Nat},i.site=s->(s==245004006)=false->∀a,a<n->(i=R1 a)=False:=fun {i s} hi hs a ha=>by
  simp only[eq_iff_iff,iff_false]
  rintro rfl
  rw[I.Tt a ha]at hi
  subst hi
  simp at hs
 refine⟨(hf _ I.vx (ne I.sx (by decide) _ ha) (ne I.sx (by decide) _ hb)).trans h.x,(hf _ I.v1 (ne I.s1 (by decide) _ ha) (ne I.s1 (by decide) _ hb)).trans h.t1,(hf _ I.v2 (ne I.s2 (by decide) _ ha) (ne I.s2 (by decide) _ hb)).trans h.t2,fun i hi=>?_,fun i hi=>(hf _ (I.QD i hi) (ne (I.ND i hi) (by decide) _ ha) (ne (I.ND i hi) (by decide) _ hb)).trans (h.r2 i hi)⟩
 by_cases KF:i=b.b
 ·subst KF;exact hB
 ·by_cases KE:i=b.a
  ·subst KE
   rw[hA KF,nJ,jY KF]
  ·rw[nJ,jY KF,jY KE,hf _ (I.Tx i hi) (by simp only[eq_iff_iff,iff_false];exact fun he=>KE (I.i1 i _ hi ha he)) (by simp only[eq_iff_iff,iff_false];exact fun he=>KF (I.i1 i _ hi hb he))]
   exact h.r1 i hi
def lF (n:Nat) (c f:Nat->Nat->Int):List AV:=[.sl (xO c n),.sl (xO f n)]
theorem FQ {g:Rows} {R:Nat->Id} {n k:Nat} {c:Nat->Nat->Int} (h:∀i,i<k->g (R i)=some ⟨true,1,dV (c i) n⟩) (m:Nat):eo (dF g) (m+3) (lg R n k)=some ((List.range k).map fun i=>[.sl (dV (c i) n)]):=by
 induction k with
 |zero=>rw[show lg R n 0=[]from rfl,eo];rfl
 |succ k ih=>
  have e1:V.fz (dF g) (m+3) (.own (R k) 0 n)=some (.sl (dV (c k) n)):=by
   rw[iw];simp only[dF,h k (by omega),Option.map_some,if_true]
   rw[if_pos (by rw[dB];omega),List.drop_zero,List.take_of_length_le (by rw[dB];omega),Al];rfl
  have app:∀(xs ys:List (List AV)) (Tz SB:List (List AV)),eo (dF g) (m+3) xs=some Tz->eo (dF g) (m+3) ys=some SB->eo (dF g) (m+3) (xs++ys)=some (Tz++SB):=by
   intro xs
   induction xs with
   |nil=>intro ys Tz SB h1 h2;rw[eo]at h1;cases h1;exact h2
   |cons a xs ih2=>
    intro ys Tz SB h1 h2
    rw[eo]at h1
    rw[List.cons_append,eo]
    cases ha:cG (dF g) (m+3) a with
    |none=>simp[ha]at h1
    |some a'=>
     cases hb:eo (dF g) (m+3) xs with
     |none=>simp[ha,hb]at h1
     |some b'=>
      simp[ha,hb]at h1
      subst h1
      rw[ih2 ys b' SB hb h2];rfl
  rw[tn,List.range_succ,List.map_append]
  refine app _ _ _ _ (ih fun i hi=>h i (by omega)) ?_
  rw[eo,ai,ao,e1,eo];rfl
theorem nI.fz {g:Rows} {X o1 o2:Id} {R1 R2:Nat->Id} {n:Nat} {c f:Nat->Nat->Int} (h:nI g X o1 o2 R1 R2 n c f):V.fz (dF g) 6 (.ptr X 0 0)=some (.dm (lF n c f)):=by
 refine zr (sz:=2) (rows:=[[.own o1 0 n,.own o2 0 n]]) (by simp[dF,h.x]) rfl ?_
 have e1:V.fz (dF g) 5 (.own o1 0 n)=some (.sl (xO c n)):=by
  rw[iw];simp only[dF,h.t1,Option.map_some,if_true]
  rw[if_pos (by rw[j9];omega),List.drop_zero,List.take_of_length_le (by rw[j9];omega)]
  rw[show eo _ 4 _=some (xO c n)from FQ h.r1 1];rfl
 have e2:V.fz (dF g) 5 (.own o2 0 n)=some (.sl (xO f n)):=by
  rw[iw];simp only[dF,h.t2,Option.map_some,if_true]
  rw[if_pos (by rw[j9];omega),List.drop_zero,List.take_of_length_le (by rw[j9];omega)]
  rw[show eo _ 4 _=some (xO f n)from FQ h.r2 1];rfl
 simp only[List.drop_zero,ai,ao,e1,e2,lF,Option.map_some]
theorem Od (n:Nat) (c f:Nat->Nat->Int) (u v:Nat) (hu:u<n) (hv:v<n):aq Tryz.prog 272 [.dm (lF n c f),.int .i64 u,.int .i64 v] (.bool (decide (f u v<c u v))):=by
 refine aq.body eL rfl fun hl n0=>?_
 clear hl
 have h1:=Ct (c:=c) hu
 have h2:=Ct (c:=f) hu
 have h3:=dO (f:=c u) hv
 have h4:=dO (f:=f u) hv
 have hui:(u:Int)<(n:Int):=by omega
 have DU:(v:Int)<(n:Int):=by omega
 have l1:=xc c n
 have l2:=xc f n
 have l3:=dB (c u) n
 have l4:=dB (f u) n
 rw[aw]at h3 h4
 (try((repeat(revert hN;revert N;apply Pn.out));refine wk (tw @lF.eq_1 (tw @h1 (tw @h2 (tw @h3 (tw @h4 (tw @hui (tw @DU (tw @l1 (tw @l2 (tw @l3 @l4)))))))))) ?_;(repeat(refine Pn.mk ?_;intro N hN))))
 exact aX (b:=decide (f u v<c u v)) (.inl rfl) (sd @Nat.zero_add) rfl
theorem Hu (n:Nat):List.replicate n [AV.int .i64 0]=dV (fun _=>0) n:=by
 refine List.ext_getElem? fun i=>?_
 by_cases h:i<n
 ·rw[dO h,List.getElem?_replicate,if_pos h];rfl
 ·rw[List.getElem?_eq_none (by simp;omega),List.getElem?_eq_none (by rw[dB];omega)]
theorem Ai {i j:Id} {s t:Nat} (hi:i.site=s) (hj:j.site=t) (h:(s==t)=false):(i=j)=False/\(j=i)=False:=by
 constructor<;>(simp only[eq_iff_iff,iff_false];rintro rfl;rw[hi]at hj;subst hj;simp at h)
theorem Ce (cnt:Nat) (zC:1<=cnt) (hn:cnt<=1048576) (bs:List PB) (hb:∀b∈bs,b.a<cnt/\b.b<cnt) (dL:∀b∈bs,0<=b.s/\b.s<=4) (nQ:bs.length<=1048576) (σ:ar):
  Call Tryz.prog 245 [.int .i64 cnt,.sl (bs.map aA)] σ fun r σ'=>∃X o1 o2 R1 R2,r=.ptr X 0 0/\F0 X o1 o2 R1 R2 cnt σ'.next/\σ.next<=σ'.next/\nI σ'.get X o1 o2 R1 R2 cnt (k9 bs) (fun _ _=>0)/\∀i:Id,i.bm<σ.next->σ'.get i=σ.get i:=by
 refine eV eL rfl fun hl=>?_
 clear hl
 (try((repeat(revert hN;revert N;apply Pn.out));refine wk @Nat.zero_add ?_;(repeat(refine Pn.mk ?_;intro N hN))))
 obtain⟨X,hX⟩:∃X:Id,X=⟨245001001,σ.next+1⟩:=⟨_,rfl⟩
 obtain⟨R1,Uj⟩:∃R:Nat->Id,R=fun k=>⟨245004006,σ.next+3+4*k+1⟩:=⟨_,rfl⟩
 obtain⟨R2,Q4⟩:∃R:Nat->Id,R=fun k=>⟨245005006,σ.next+3+4*k+2⟩:=⟨_,rfl⟩
 have sX:X.site=245001001:=by rw[hX]
 have vX:X.bm=σ.next+1:=by rw[hX]
 have s1:∀k,(R1 k).site=245004006:=fun k=>by rw[Uj]
 have s2:∀k,(R2 k).site=245005006:=fun k=>by rw[Q4]
 have v1:∀k,(R1 k).bm=σ.next+3+4*k+1:=fun k=>by rw[Uj]
 have v2:∀k,(R2 k).bm=σ.next+3+4*k+2:=fun k=>by rw[Q4]
 have jG:(0:Int)<=(cnt:Int):=by omega
 have pS:(cnt:Int)<=((16777216:Nat):Int):=by omega
 have hz:=Hu cnt
 have t1:lg R1 cnt 0=[]:=rfl
 have t2:lg R2 cnt 0=[]:=rfl
 refine aM (fun n env st=>∃k:Nat,n=(cnt)-k/\k<=(cnt)/\env 11=.int .i64 (k:Int)/\env 5=(.ptr X 0 0)/\(st.next=σ.next+3+4*k/\(∀i:Id,i.bm<σ.next->st.get i=σ.get i)/\∀j,j<k->st.get (R1 j)=some ⟨true,1,dV (fun _=>0) cnt⟩/\st.get (R2 j)=some ⟨true,1,dV (fun _=>0) cnt⟩)/\((k=0/\st.get X=some ⟨true,2,[[.bV,.bV]]⟩)∨∃o1 o2:Id,o1.site=245004008/\o2.site=245005008/\o1.bm<st.next/\o2.bm<st.next/\σ.next<=o1.bm/\σ.next<=o2.bm/\st.get X=some ⟨true,2,[[.own o1 0 k,.own o2 0 k]]⟩/\st.get o1=some ⟨true,1,lg R1 cnt k⟩/\st.get o2=some ⟨true,1,lg R2 cnt k⟩)) (cnt) ⟨0,by omega,by omega,sl @hX,sl @hX,⟨rfl,fun i hi=>by(have DU:=dx hi);simp only[go_sem, ↓reduceIte,Nat.reduceEqDiff,Nat.reduceAdd,Nat.reduceSub,Nat.reduceLeDiff,reduceCtorEq,DU],fun j hj=>absurd hj (Nat.not_lt_zero j)⟩,.inl ⟨rfl,by rw[hX];simp only[go_sem, ↓reduceIte,Nat.reduceEqDiff,Nat.reduceAdd,Nat.reduceSub,Nat.reduceLeDiff,reduceCtorEq]⟩⟩ ?_
 rintro n_a env_a st_a ⟨k,rfl,ale,a11,a5,kc,aI1⟩ di
 have a0:=di 0 (by kernel_rfl);have a1:=di 1 (by kernel_rfl);have xt:=di 10 (by kernel_rfl)
 simp only[go_sem, ↓reduceIte,Nat.reduceEqDiff,Nat.reduceAdd,Nat.reduceSub,Nat.reduceLeDiff,reduceCtorEq,hX]at a0 a1 xt
 clear di
 obtain⟨anx,di,aR⟩:=kc
 have wX:=dx (i:=X) (n:=st_a.next) (by omega)
 by_cases hk:(k:Int)<(cnt:Int)
 ·have cz:∀{e:Env} {gg:Rows} {nx:Nat},(e 11=.int .i64 (IntKind.i64.wrap ((k:Int)+1)))->(e 5=(.ptr X 0 0))->(nx=σ.next+3+4*(k+1)/\(∀i:Id,i.bm<σ.next->gg i=σ.get i)/\∀j,j<(k+1)->gg (R1 j)=some ⟨true,1,dV (fun _=>0) cnt⟩/\gg (R2 j)=some ⟨true,1,dV (fun _=>0) cnt⟩)->(((k+1)=0/\gg X=some ⟨true,2,[[.bV,.bV]]⟩)∨∃o1 o2:Id,o1.site=245004008/\o2.site=245005008/\o1.bm<nx/\o2.bm<nx/\σ.next<=o1.bm/\σ.next<=o2.bm/\gg X=some ⟨true,2,[[.own o1 0 (k+1),.own o2 0 (k+1)]]⟩/\gg o1=some ⟨true,1,lg R1 cnt (k+1)⟩/\gg o2=some ⟨true,1,lg R2 cnt (k+1)⟩)->∃m0,m0<(cnt)-k/\∃k:Nat,m0=(cnt)-k/\k<=(cnt)/\e 11=.int .i64 (k:Int)/\e 5=(.ptr X 0 0)/\(nx=σ.next+3+4*k/\(∀i:Id,i.bm<σ.next->gg i=σ.get i)/\∀j,j<k->gg (R1 j)=some ⟨true,1,dV (fun _=>0) cnt⟩/\gg (R2 j)=some ⟨true,1,dV (fun _=>0) cnt⟩)/\((k=0/\gg X=some ⟨true,2,[[.bV,.bV]]⟩)∨∃o1 o2:Id,o1.site=245004008/\o2.site=245005008/\o1.bm<nx/\o2.bm<nx/\σ.next<=o1.bm/\σ.next<=o2.bm/\gg X=some ⟨true,2,[[.own o1 0 k,.own o2 0 k]]⟩/\gg o1=some ⟨true,1,lg R1 cnt k⟩/\gg o2=some ⟨true,1,lg R2 cnt k⟩):=fun x1 x2 x3 x4=>⟨_,by omega,k+1,rfl,by omega,(by rw[x1,az (by omega)]),x2,x3,x4⟩
  have eX:k<cnt:=by omega
  have rj:R1 k=⟨245004006,st_a.next+1⟩:=by rw[Uj,anx]
  have s4:R2 k=⟨245005006,st_a.next+1+1⟩:=by rw[Q4,anx]
  have KK:lg R1 cnt (k+1)=lg R1 cnt k++[[.own ⟨245004006,st_a.next+1⟩ 0 cnt]]:=by rw[tn,rj]
  have Qr:lg R2 cnt (k+1)=lg R2 cnt k++[[.own ⟨245005006,st_a.next+1+1⟩ 0 cnt]]:=by rw[tn,s4]
  rcases aI1 with⟨rfl,QH⟩|⟨o1,o2,so1,so2,vo1,vo2,vn1,vn2,QH,ag1,ag2⟩
  ·(try((repeat(revert hN;revert N;apply Pn.out));refine wk (tw @a11 (tw @a5 (tw @a0 (tw @a1 (tw @xt (tw @hk (tw @wX (tw @QH (tw @jG (tw @pS (tw @Int.le_refl @hz))))))))))) ?_;(repeat(refine Pn.mk ?_;intro N hN))))
   refine cz ?_ ?_ (by
    (try dsimp only)
    refine⟨by omega,fun i hi=>?_,fun j hj=>?_⟩
    ·have q1:=dx (i:=i) (n:=st_a.next) (by omega)
     have q2:=dt (a:=i) (b:=X) (by omega)
     have:=di i hi
     simp only[go_sem, ↓reduceIte,Nat.reduceEqDiff,Nat.reduceAdd,Nat.reduceSub,Nat.reduceLeDiff,reduceCtorEq,q1,q2,this]
    ·by_cases ym:j=0
     ·subst ym
      rw[rj,s4]
      have q1:=gH sX (b:=245004006) (v:=st_a.next+1) (by decide)
      have q2:=gH sX (b:=245005006) (v:=st_a.next+1+1) (by decide)
      simp only[go_sem, ↓reduceIte,Nat.reduceEqDiff,Nat.reduceAdd,Nat.reduceSub,Nat.reduceLeDiff,reduceCtorEq,q1,q2]
     ·obtain⟨r1,r2⟩:=aR j (by omega)
      have q1:=dx (i:=R1 j) (n:=st_a.next) (by rw[v1];omega)
      have q2:=dx (i:=R2 j) (n:=st_a.next) (by rw[v2];omega)
      have q3:=Ai (s1 j) sX (by decide)
      have q4:=Ai (s2 j) sX (by decide)
      constructor
      ·simp only[go_sem, ↓reduceIte,Nat.reduceEqDiff,Nat.reduceAdd,Nat.reduceSub,Nat.reduceLeDiff,reduceCtorEq,q1,q3,r1]
      ·simp only[go_sem, ↓reduceIte,Nat.reduceEqDiff,Nat.reduceAdd,Nat.reduceSub,Nat.reduceLeDiff,reduceCtorEq,q2,q4,r2]) (.inr ⟨⟨245004008,st_a.next+1⟩,⟨245005008,st_a.next+1+1⟩,rfl,rfl,by(try dsimp only);omega,by(try dsimp only);omega,by(try dsimp only);omega,by(try dsimp only);omega,sd @wX,by rw[KK,t1];simp only[go_sem, ↓reduceIte,Nat.reduceEqDiff,Nat.reduceAdd,Nat.reduceSub,Nat.reduceLeDiff,reduceCtorEq,wX,List.nil_append],by rw[Qr,t2];simp only[go_sem, ↓reduceIte,Nat.reduceEqDiff,Nat.reduceAdd,Nat.reduceSub,Nat.reduceLeDiff,reduceCtorEq,wX,List.nil_append]⟩)
   all_goals simp only[go_sem, ↓reduceIte,Nat.reduceEqDiff,Nat.reduceAdd,Nat.reduceSub,Nat.reduceLeDiff,reduceCtorEq,a11,a5,a0,a1,xt,wX]
  ·have l1:=j9 R1 cnt k
   have l2:=j9 R2 cnt k
   have e1:k+1<=16777216:=by omega
   have w1:=dx vo1
   have w2:=dx vo2
   have x1:=Ai sX so1 (by decide)
   have x2:=Ai sX so2 (by decide)
   have x3:=Ai so1 so2 (by decide)
   (try((repeat(revert hN;revert N;apply Pn.out));refine wk (tw @a11 (tw @a5 (tw @a0 (tw @a1 (tw @xt (tw @hk (tw @wX (tw @QH (tw @ag1 (tw @ag2 (tw @l1 (tw @l2 (tw @e1 (tw @w1 (tw @w2 (tw @x1 (tw @x2 (tw @x3 (tw @jG (tw @pS (tw @Int.le_refl @hz))))))))))))))))))))) ?_;(repeat(refine Pn.mk ?_;intro N hN))))
   refine cz ?_ ?_ (by
    (try dsimp only)
    refine⟨by omega,fun i hi=>?_,fun j hj=>?_⟩
    ·have q1:=dx (i:=i) (n:=st_a.next) (by omega)
     have q2:=dt (a:=i) (b:=X) (by omega)
     have q3:=dt (a:=i) (b:=o1) (by omega)
     have q4:=dt (a:=i) (b:=o2) (by omega)
     have:=di i hi
     simp only[go_sem, ↓reduceIte,Nat.reduceEqDiff,Nat.reduceAdd,Nat.reduceSub,Nat.reduceLeDiff,reduceCtorEq,q1,q2,this,q3,q4]
    ·by_cases ym:j=k
     ·subst ym
      rw[rj,s4]
      have q1:=gH sX (b:=245004006) (v:=st_a.next+1) (by decide)
      have q2:=gH sX (b:=245005006) (v:=st_a.next+1+1) (by decide)
      simp only[go_sem, ↓reduceIte,Nat.reduceEqDiff,Nat.reduceAdd,Nat.reduceSub,Nat.reduceLeDiff,reduceCtorEq,q1,q2,w1,w2]
     ·obtain⟨r1,r2⟩:=aR j (by omega)
      have q1:=dx (i:=R1 j) (n:=st_a.next) (by rw[v1];omega)
      have q2:=dx (i:=R2 j) (n:=st_a.next) (by rw[v2];omega)
      have q3:=Ai (s1 j) sX (by decide)
      have q4:=Ai (s2 j) sX (by decide)
      have q5:=Ai (s1 j) so1 (by decide)
      have q6:=Ai (s1 j) so2 (by decide)
      have q7:=Ai (s2 j) so1 (by decide)
      have q8:=Ai (s2 j) so2 (by decide)
      constructor
      ·simp only[go_sem, ↓reduceIte,Nat.reduceEqDiff,Nat.reduceAdd,Nat.reduceSub,Nat.reduceLeDiff,reduceCtorEq,q1,q3,r1,q5,q6]
      ·simp only[go_sem, ↓reduceIte,Nat.reduceEqDiff,Nat.reduceAdd,Nat.reduceSub,Nat.reduceLeDiff,reduceCtorEq,q2,q4,r2,q7,q8]) (.inr ⟨⟨245004008,st_a.next+1⟩,⟨245005008,st_a.next+1+1⟩,rfl,rfl,by(try dsimp only);omega,by(try dsimp only);omega,by(try dsimp only);omega,by(try dsimp only);omega,sd @wX,by rw[KK];simp only[go_sem, ↓reduceIte,Nat.reduceEqDiff,Nat.reduceAdd,Nat.reduceSub,Nat.reduceLeDiff,reduceCtorEq,wX,w1,w2],by rw[Qr];simp only[go_sem, ↓reduceIte,Nat.reduceEqDiff,Nat.reduceAdd,Nat.reduceSub,Nat.reduceLeDiff,reduceCtorEq,wX,w1,w2]⟩)
   all_goals simp only[go_sem, ↓reduceIte,Nat.reduceEqDiff,Nat.reduceAdd,Nat.reduceSub,Nat.reduceLeDiff,reduceCtorEq,a11,a5,a0,a1,xt,wX,w1,w2,x1,x2,x3]
 have kH:cnt=k:=by omega
 subst kH
 rcases aI1 with⟨h0,_⟩|⟨o1,o2,so1,so2,vo1,vo2,vn1,vn2,QH,ag1,ag2⟩
 ·omega
 (try((repeat(revert hN;revert N;apply Pn.out));refine wk (tw @a11 (tw @a5 (tw @a0 (tw @a1 (tw @xt @hk))))) ?_;(repeat(refine Pn.mk ?_;intro N hN))))
 have I:F0 X o1 o2 R1 R2 cnt st_a.next:=⟨sX,so1,so2,fun i _=>s1 i,fun i _=>s2 i,fun i j _ _ h=>by have:=v1 i;rw[h,v1]at this;omega,fun i j _ _ h=>by have:=v2 i;rw[h,v2]at this;omega,by omega,vo1,vo2,fun i hi=>by rw[v1];omega,fun i hi=>by rw[v2];omega⟩
 refine aM (fun n env st=>∃i:Nat,n=(bs.length)-i/\i<=(bs.length)/\env 38=.int .i64 (i:Int)/\(st_a.next<=st.next/\(∀x:Id,x.bm<σ.next->st.get x=σ.get x)/\nI st.get X o1 o2 R1 R2 cnt (k9 (bs.take i)) (fun _ _=>0))) (bs.length) ⟨0,by omega,by omega,sl (tw @a11 (tw @a5 (tw @a0 (tw @a1 @xt)))),⟨by(try dsimp only);omega,di,QH,ag1,ag2,fun j hj=>(aR j hj).1,fun j hj=>(aR j hj).2⟩⟩ ?_
 rintro n_b env_b st_b ⟨i,rfl,ble,b38,bI0⟩ e9
 have b0:=e9 0 (by kernel_rfl);have b1:=e9 1 (by kernel_rfl);have b5:=e9 5 (by kernel_rfl);have P6:=e9 36 (by kernel_rfl);have P7:=e9 37 (by kernel_rfl)
 simp only[go_sem, ↓reduceIte,Nat.reduceEqDiff,Nat.reduceAdd,Nat.reduceSub,Nat.reduceLeDiff,reduceCtorEq,a11,a5,a0,a1,xt]at b0 b1 b5 P6 P7
 clear e9
 obtain⟨bn,NZ,bM⟩:=bI0
 by_cases hi:(i:Int)<(bs.length:Int)
 ·have fJ:∀{e:Env} {gg:Rows} {nx:Nat},(e 38=.int .i64 (IntKind.i64.wrap ((i:Int)+1)))->(st_a.next<=nx/\(∀x:Id,x.bm<σ.next->gg x=σ.get x)/\nI gg X o1 o2 R1 R2 cnt (k9 (bs.take (i+1))) (fun _ _=>0))->∃m0,m0<(bs.length)-i/\∃i:Nat,m0=(bs.length)-i/\i<=(bs.length)/\e 38=.int .i64 (i:Int)/\(st_a.next<=nx/\(∀x:Id,x.bm<σ.next->gg x=σ.get x)/\nI gg X o1 o2 R1 R2 cnt (k9 (bs.take i)) (fun _ _=>0)):=fun x1 x2=>⟨_,by omega,i+1,rfl,by omega,(by rw[x1,az (by omega)]),x2⟩
  have fU:i<bs.length:=by omega
  have ku:(bs.map aA)[i]? =some (aA bs[i]):=by simp[fU]
  have fx:=hb _ (List.getElem_mem fU)
  have hsi:=dL _ (List.getElem_mem fU)
  have pZ:k9 (bs.take (i+1))=nJ (k9 (bs.take i)) bs[i]:=by rw[List.take_succ_eq_append_getElem fU,Es]
  have qG:=Aa (bs.take i) (fun _ _=>0) (fun b hb=>(dL b (List.mem_of_mem_take hb)).1) (fun _ _=>Int.le_refl _)
  have hle:=room_le (bs.take i) (fun _ _=>0) 0 (fun b hb=>(dL b (List.mem_of_mem_take hb)).2) (fun _ _=>Int.le_refl _) (Int.le_refl _)
  rw[List.length_take]at hle
  have gh:(bs.take i).foldl nJ (fun _ _=>0)=k9 (bs.take i):=rfl
  rw[gh]at qG hle
  generalize k9 (bs.take i)=c at *
  generalize bs[i]=b at *
  obtain⟨ha,sY⟩:=fx
  have gA:=sq (R:=R1) (n:=cnt) ha
  have gB:=sq (R:=R1) (n:=cnt) sY
  have rA:=bM.r1 _ ha
  have rB:=bM.r1 _ sY
  have cA:=dO (f:=c b.a) sY
  have cB:=dO (f:=c b.b) ha
  have sA:=ox (f:=c) (a:=b.a) (d:=b.s) sY
  have gX:=bM.x
  have g1:=bM.t1
  have gJ:(b.a:Int)<(cnt:Int):=by omega
  have fx:(b.b:Int)<(cnt:Int):=by omega
  have qX:=dx (i:=X) (n:=st_b.next) (by omega)
  have q1:=dx (i:=o1) (n:=st_b.next) (by omega)
  have qA:=dx (i:=R1 b.a) (n:=st_b.next) (by rw[v1];omega)
  have qB:=dx (i:=R1 b.b) (n:=st_b.next) (by rw[v1];omega)
  have xA:=Ai sX (s1 b.a) (by decide)
  have xB:=Ai sX (s1 b.b) (by decide)
  have yA:=Ai so1 (s1 b.a) (by decide)
  have yB:=Ai so1 (s1 b.b) (by decide)
  have l1:=j9 R1 cnt cnt
  have lA:=dB (c b.a) cnt
  have lB:=dB (c b.b) cnt
  have hAB:=hle b.a b.b
  have hBA:=hle b.b b.a
  have gAB:=qG b.a b.b
  have gBA:=qG b.b b.a
  have wA:IntKind.i64.wrap (c b.a b.b+b.s)=c b.a b.b+b.s:=bx (by omega)
  by_cases nP:b.a=b.b
  ·obtain⟨ba,bb,s⟩:=b
   dsimp only at *
   subst nP
   have O1:=ox (f:=bump c ba ba s) (a:=ba) (b:=ba) (d:=s) (n:=cnt) ha
   have Uw:=dO (f:=bump c ba ba s ba) ha
   have hv:bump c ba ba s ba ba=c ba ba+s:=by simp[bump]
   have lC:=dB (bump c ba ba s ba) cnt
   have wB:IntKind.i64.wrap (c ba ba+s+s)=c ba ba+s+s:=bx (by omega)
   rw[hv]at O1 Uw
   have sZ:nJ c ⟨ba,ba,s⟩ ba=bump (bump c ba ba s) ba ba s ba:=rfl
   rw[aw]at cA sA O1 Uw
   (try((repeat(revert hN;revert N;apply Pn.out));refine wk (tw @b38 (tw @b0 (tw @b1 (tw @b5 (tw @P6 (tw @P7 (tw @hi (tw @ku (tw @aA.eq_1 (tw @gA (tw @rA (tw @cA (tw @sA (tw @gX (tw @g1 (tw @gJ (tw @qX (tw @q1 (tw @qA (tw @xA (tw @yA (tw @l1 (tw @lA (tw @wA (tw @O1 (tw @Uw (tw @lC @wB))))))))))))))))))))))))))) ?_;(repeat(refine Pn.mk ?_;intro N hN))))
   exact fJ (sd (tw @b38 (tw @b0 (tw @b1 (tw @b5 (tw @P6 @P7)))))) (by
    (try dsimp only)
    refine⟨by omega,fun x hx=>?_,?_⟩
    ·have p1:=dx (i:=x) (n:=st_b.next) (by omega)
     have p2:=dt (a:=x) (b:=R1 ba) (by rw[v1];omega)
     have:=NZ x hx
     simp only[go_sem, ↓reduceIte,Nat.reduceEqDiff,Nat.reduceAdd,Nat.reduceSub,Nat.reduceLeDiff,reduceCtorEq,p1,p2,this]
    ·rw[pZ]
     refine bM.add I ⟨ba,ba,s⟩ ha ha (fun h=>absurd rfl h) ?_ fun x hx h1 h2=>?_
     ·rw[sZ]
      simp only[go_sem, ↓reduceIte,Nat.reduceEqDiff,Nat.reduceAdd,Nat.reduceSub,Nat.reduceLeDiff,reduceCtorEq]
     ·have p1:=dx (i:=x) (n:=st_b.next) (by omega)
      (try dsimp only at h2)
      simp only[go_sem, ↓reduceIte,Nat.reduceEqDiff,Nat.reduceAdd,Nat.reduceSub,Nat.reduceLeDiff,reduceCtorEq,p1,h2])
  ·have gY:(R1 b.a=R1 b.b)=False:=by simp only[eq_iff_iff,iff_false];exact fun h=>nP (I.i1 _ _ ha sY h)
   have I3:(R1 b.b=R1 b.a)=False:=by simp only[eq_iff_iff,iff_false];exact fun h=>nP (I.i1 _ _ ha sY h.symm)
   have OT:bump c b.a b.b b.s b.b=c b.b:=jY fun h=>nP h.symm
   have O1:=ox (f:=bump c b.a b.b b.s) (a:=b.b) (b:=b.a) (d:=b.s) (n:=cnt) ha
   rw[OT]at O1
   have wB:IntKind.i64.wrap (c b.b b.a+b.s)=c b.b b.a+b.s:=bx (by omega)
   have sZ:nJ c b b.b=bump (bump c b.a b.b b.s) b.b b.a b.s b.b:=rfl
   rw[aw]at cA cB sA O1
   (try((repeat(revert hN;revert N;apply Pn.out));refine wk (tw @b38 (tw @b0 (tw @b1 (tw @b5 (tw @P6 (tw @P7 (tw @hi (tw @ku (tw @aA.eq_1 (tw @gA (tw @gB (tw @rA (tw @rB (tw @cA (tw @cB (tw @sA (tw @gX (tw @g1 (tw @gJ (tw @fx (tw @qX (tw @q1 (tw @qA (tw @qB (tw @xA (tw @xB (tw @yA (tw @yB (tw @l1 (tw @lA (tw @lB (tw @wA (tw @O1 (tw @wB (tw @gY @I3))))))))))))))))))))))))))))))))))) ?_;(repeat(refine Pn.mk ?_;intro N hN))))
   exact fJ (sd (tw @b38 (tw @b0 (tw @b1 (tw @b5 (tw @P6 @P7)))))) (by
    (try dsimp only)
    refine⟨by omega,fun x hx=>?_,?_⟩
    ·have p1:=dx (i:=x) (n:=st_b.next) (by omega)
     have p2:=dt (a:=x) (b:=R1 b.b) (by rw[v1];omega)
     have p3:=dt (a:=x) (b:=R1 b.a) (by rw[v1];omega)
     have:=NZ x hx
     simp only[go_sem, ↓reduceIte,Nat.reduceEqDiff,Nat.reduceAdd,Nat.reduceSub,Nat.reduceLeDiff,reduceCtorEq,p1,p2,p3,this]
    ·rw[pZ]
     refine bM.add I b ha sY (fun h=>?_) ?_ fun x hx h1 h2=>?_
     ·simp only[go_sem, ↓reduceIte,Nat.reduceEqDiff,Nat.reduceAdd,Nat.reduceSub,Nat.reduceLeDiff,reduceCtorEq,gY]
     ·rw[sZ]
      simp only[go_sem, ↓reduceIte,Nat.reduceEqDiff,Nat.reduceAdd,Nat.reduceSub,Nat.reduceLeDiff,reduceCtorEq,gY]
     ·have p1:=dx (i:=x) (n:=st_b.next) (by omega)
      simp only[go_sem, ↓reduceIte,Nat.reduceEqDiff,Nat.reduceAdd,Nat.reduceSub,Nat.reduceLeDiff,reduceCtorEq,p1,h1,h2])
 ·have nG:i=bs.length:=by omega
  subst nG
  rw[List.take_length]at bM
  (try((repeat(revert hN;revert N;apply Pn.out));refine wk (tw @b38 (tw @b0 (tw @b1 (tw @b5 (tw @P6 (tw @P7 @hi)))))) ?_;(repeat(refine Pn.mk ?_;intro N hN))))
  exact fb (.inl rfl) (vs:=[.ptr X 0 0]) (sd @Nat.zero_add) ⟨X,o1,o2,R1,R2,rfl,⟨I.sx,I.s1,I.s2,I.Tt,I.ND,I.i1,I.i2,by have:=I.vx;(try dsimp only);omega,by have:=I.v1;(try dsimp only);omega,by have:=I.v2;(try dsimp only);omega,fun j hj=>by have:=I.Tx j hj;(try dsimp only);omega,fun j hj=>by have:=I.QD j hj;(try dsimp only);omega⟩,by(try dsimp only);omega,bM,NZ⟩
end Go.Proofs.YtgoelphibofcmaaGreat.V

namespace Go.Proofs.YtgoelphibofcmaaGreat.V
structure Bq (n:Nat) (c f:Nat->Nat->Int) (x:Nat) (par:Nat->Int) (Q:List Nat) (i:Nat):Prop where
 nodup:Q.Nodup
 lt:∀v∈Q,v<n
 root:par x=(x:Int)
 mem:x∈Q
 iff:∀v,v<n->(0<=par v↔v∈Q)
 up:∀v∈Q,v≠x->∃u,u∈Q/\par v=(u:Int)/\Q.idxOf u<Q.idxOf v/\f u v<c u v
 done:∀j (_:j<i) (hl:j<Q.length) (v:Nat),v<n->f Q[j] v<c Q[j] v->v∈Q
 ile:i<=Q.length
section
variable {n:Nat} {c f:Nat->Nat->Int} {x:Nat} {par:Nat->Int} {Q:List Nat} {i:Nat}
theorem Bq.len (h:Bq n c f x par Q i):Q.length<=n:=oU n Q h.nodup h.lt
theorem Bq.start (hx:x<n):Bq n c f x (fun v=>if v=x then(x:Int)else -1) [x] 0:=by
 refine⟨by simp,fun v hv=>by simp at hv;omega,by simp,by simp,fun v hv=>?_,fun v hv gY=>absurd (by simpa using hv) gY,fun j hj=>by omega,by simp⟩
 by_cases h:v=x
 ·simp[h]
 ·simp[h]
theorem Bq.visit (h:Bq n c f x par Q i) (hi:i<Q.length) {v:Nat} (hv:v<n) (hp:par v<0) (hr:f Q[i] v<c Q[i] v):Bq n c f x (fun w=>if w=v then(Q[i]:Int)else par w) (Q++[v]) i:=by
 have Vd:v∉Q:=fun hm=>by have:=(h.iff v hv).2 hm;omega
 have Vi:x≠v:=fun e=>Vd (e▸h.mem)
 have zA:∀u∈Q,(Q++[v]).idxOf u=Q.idxOf u:=fun u hu=>by rw[List.idxOf_append,if_pos hu]
 have vQ:(Q++[v]).idxOf v=Q.length:=by rw[List.idxOf_append,if_neg Vd];simp
 refine⟨?_,fun w hw=>?_,by simp only[if_neg Vi];exact h.root,by simp[h.mem],fun w hw=>?_,fun w hw gY=>?_,fun j hj hl w hw Ja=>?_,by simp;omega⟩
 ·refine List.nodup_append.2 ⟨h.nodup,by simp,fun a ha b hb=>?_⟩
  rw[List.mem_singleton.1 hb]
  rintro rfl;exact Vd ha
 ·rcases List.mem_append.1 hw with hw|hw
  ·exact h.lt w hw
  ·rw[List.mem_singleton.1 hw];exact hv
 ·by_cases Fw:w=v
  ·subst Fw;simp
  ·rw[if_neg Fw,h.iff w hw];simp[Fw]
 ·by_cases Fw:w=v
  ·subst Fw
   refine⟨Q[i],by simp,by simp,?_,hr⟩
   rw[zA _ (List.getElem_mem hi),vQ]
   exact List.idxOf_lt_length_of_mem (List.getElem_mem hi)
  ·have hwQ:w∈Q:=by
    rcases List.mem_append.1 hw with hw|hw
    ·exact hw
    ·exact absurd (List.mem_singleton.1 hw) Fw
   obtain⟨u,h1,h2,h3,h4⟩:=h.up w hwQ gY
   exact⟨u,by simp[h1],by rw[if_neg Fw];exact h2,by rw[zA u h1,zA w hwQ];exact h3,h4⟩
 ·have gN:j<Q.length:=by have:=h.ile;omega
  rw[List.getElem_append_left gN]at Ja
  exact List.mem_append_left _ (h.done j hj gN w hw Ja)
theorem Bq.next (h:Bq n c f x par Q i) (hi:i<Q.length) (dQ:∀v,v<n->f Q[i] v<c Q[i] v->0<=par v):Bq n c f x par Q (i+1):=by
 refine⟨h.nodup,h.lt,h.root,h.mem,h.iff,h.up,fun j hj hl v hv hr=>?_,by omega⟩
 by_cases mD:j=i
 ·subst mD;exact(h.iff v hv).1 (dQ v hv hr)
 ·exact h.done j (by omega) hl v hv hr
theorem Bq.cut (h:Bq n c f x par Q Q.length) {y:Nat} (hy:y<n) (hp:par y<0):∃S:Nat->Bool,S x=true/\S y=false/\∀u v,u<n->v<n->S u=true->S v=false->¬f u v<c u v:=by
 refine⟨fun v=>decide (v∈Q),by simp[h.mem],?_,fun u v hu hv h1 h2 hr=>?_⟩
 ·have:y∉Q:=fun hm=>by have:=(h.iff y hy).2 hm;omega
  simp[this]
 ·simp only[decide_eq_true_eq,decide_eq_false_iff_not]at h1 h2
  obtain⟨j,hj,rfl⟩:=List.getElem_of_mem h1
  exact h2 (h.done j hj hj v hv hr)
def uQ (c f:Nat->Nat->Int) (Q:List Nat) (y k:Nat) (out:List Nat):Prop:=∃rest,out.reverse=k::rest/\(k::rest).getLast (by simp)=y/\rm f c (k::rest)/\(k::rest).Pairwise (fun a b=>Q.idxOf a<Q.idxOf b)/\∀v∈k::rest,v∈Q
theorem uQ.start {y:Nat} (hy:y∈Q):uQ c f Q y y [y]:=⟨[],rfl,rfl,trivial,by simp,by simpa using hy⟩
theorem uQ.step {y k u:Nat} {out:List Nat} (h:uQ c f Q y k out) (hu:u∈Q) (hi:Q.idxOf u<Q.idxOf k) (hr:f u k<c u k):uQ c f Q y u (out++[u]):=by
 obtain⟨rest,h1,h2,h3,h4,h5⟩:=h
 refine⟨k::rest,by rw[List.reverse_append,h1];rfl,by rw[List.getLast_cons (by simp)];exact h2,⟨hr,h3⟩,?_,?_⟩
 ·refine List.pairwise_cons.2 ⟨fun b hb=>?_,h4⟩
  rcases List.mem_cons.1 hb with rfl|hb
  ·exact hi
  ·have:=(List.pairwise_cons.1 h4).1 b hb;omega
 ·intro v hv
  rcases List.mem_cons.1 hv with rfl|hv
  ·exact hu
  ·exact h5 v hv
theorem uQ.len {y k:Nat} {out:List Nat} (h:uQ c f Q y k out) (hq:∀v∈Q,v<n):out.length<=n:=by
 obtain⟨rest,h1,_,_,h4,h5⟩:=h
 rw[<-List.length_reverse,h1]
 refine oU n _ (h4.imp fun dR he=>?_) fun v hv=>hq v (h5 v hv)
 subst he;omega
structure QG (n:Nat) (c f:Nat->Nat->Int) (x y:Nat) (p:List Nat):Prop where
 way:∃r,p=x::r/\(x::r).getLast (by simp)=y
 nodup:p.Nodup
 room:rm f c p
 lt:∀v∈p,v<n
theorem uQ.way {y:Nat} {out:List Nat} (h:uQ c f Q y x out) (hq:∀v∈Q,v<n):QG n c f x y out.reverse:=by
 obtain⟨rest,h1,h2,h3,h4,h5⟩:=h
 rw[h1]
 exact⟨⟨rest,rfl,h2⟩,h4.imp fun dR he=>by subst he;omega,h3,fun v hv=>hq v (h5 v hv)⟩
end
end Go.Proofs.YtgoelphibofcmaaGreat.V

namespace Go.Proofs.YtgoelphibofcmaaGreat.V
open Go.RowKit
attribute [local irreducible] ek wpOps gq Call
attribute [local go_sem] aH fF eK ga fZ da upd ck K.av cH AV.cells AV.cell rowOf rowsOf part ld rowAt bF cj dy dW gU bG cX eh fY eU dn ea cV cU dH dI bJ aW cK bI cN cL dY eb dZ cJ bL cW dX bH aL cQ cC gT bj cF bK aT du bf dz AV.undef bw bE dM dU dE dJ cE ef ep cw ee ec cP cR List.getD_cons_zero List.getD_cons_succ List.getD_nil List.all_cons List.all_nil Bool.and_true Bool.true_and Bool.and_self Bool.not_true Bool.not_false Option.map_some Option.map_none Option.bind_some Option.bind_none List.length_cons List.length_nil List.take_succ_cons List.take_zero List.take_nil List.drop_succ_cons List.drop_zero List.drop_nil List.head?_cons List.map_cons List.map_nil List.getElem?_cons_zero List.getElem?_cons_succ List.cons_append List.nil_append List.append_nil List.length_map List.set_cons_zero List.set_cons_succ Nat.reduceMul eq_self Int.toNat_natCast Int.natCast_nonneg and_self true_and and_true decide_true decide_false Bool.false_eq_true Nat.zero_add Nat.add_zero List.contains_cons List.contains_nil Bool.or_false Bool.false_or beq_self_eq_true Nat.reduceBEq ne_eq not_true_eq_false not_false_eq_true Id.mk.injEq false_and and_false Nat.reduceLT Int.reduceLE Int.reduceLT Int.reduceToNat Int.reduceNeg Int.reduceAdd Nat.le_refl List.length_append beq_true beq_false Bool.not_eq_eq_eq_not or_false false_or dF ai ao aG aZ bt bW aP aY aQ aV cI bD
def lS (l:List Nat) (i x:Nat):Nat:=if x<i∨l.length-i<=x then l.getD (l.length-1-x) 0 else l.getD x 0
theorem yU (l:List Nat):l.map eN=dC (fun x=>l.getD x 0) l.length:=by
 refine List.ext_getElem? fun i=>?_
 by_cases h:i<l.length
 ·rw[fm h,List.getElem?_map,List.getElem?_eq_getElem h];simp[List.getD_eq_getElem?_getD,h]
 ·rw[List.getElem?_eq_none (by simp;omega),List.getElem?_eq_none (by rw[gn];omega)]
theorem He (l:List Nat):dC (lS l 0) l.length=l.map eN:=by
 rw[yU]
 exact gW fun x hx=>by unfold lS;rw[if_neg (by omega)]
theorem JV (l:List Nat) {i:Nat} (h:l.length<=2*i+1) (hi:i<=l.length):dC (lS l i) l.length=l.reverse.map eN:=by
 rw[yU l.reverse,List.length_reverse]
 refine gW fun x hx=>?_
 have hr:l.reverse.getD x 0=l.getD (l.length-1-x) 0:=by
  rw[List.getD_eq_getElem?_getD,List.getElem?_reverse hx,List.getD_eq_getElem?_getD]
 rw[hr]
 unfold lS
 by_cases hc:x<i∨l.length-i<=x
 ·rw[if_pos hc]
 ·rw[if_neg hc]
  have:x=l.length-1-x:=by omega
  rw[<-this]
theorem Hf (l:List Nat) (hp:0<l.length) (hl:l.length<=1048576) (o:Id) (σ:ar) (ho:σ.get o=some ⟨true,1,l.map eN⟩) (rS:o.bm<σ.next):
  Call Tryz.prog 273 [.own o 0 l.length] σ fun r σ'=>σ'.get o=some ⟨true,1,l.reverse.map eN⟩/\σ.next<=σ'.next/\∀i:Id,i.bm<σ.next->(i=o)=False->σ'.get i=σ.get i:=by
 refine eV eL rfl fun nS=>?_
 clear nS
 rw[<-He]at ho
 have Tp:IntKind.i64.wrap ((l.length:Int)-1)=((l.length-1:Nat):Int):=by rw[bx (by omega)];omega
 (try((repeat(revert hN;revert N;apply Pn.out));refine wk @Tp ?_;(repeat(refine Pn.mk ?_;intro N hN))))
 refine aM (fun m env st=>∃i:Nat,m=l.length-i/\2*i<=l.length+1/\i<=l.length/\env 2=.int .i64 (i:Int)/\env 3=.int .i64 ((l.length:Int)-1-i)/\st.get o=some ⟨true,1,dC (lS l i) l.length⟩/\σ.next<=st.next/\∀x:Id,x.bm<σ.next->(x=o)=False->st.get x=σ.get x) l.length ⟨0,rfl,by omega,by omega,by(simp only[go_sem, ↓reduceIte,Nat.reduceEqDiff,Nat.reduceAdd,Nat.reduceSub,Nat.reduceLeDiff,reduceCtorEq])<;>rfl,by(simp only[go_sem, ↓reduceIte,Nat.reduceEqDiff,Nat.reduceAdd,Nat.reduceSub,Nat.reduceLeDiff,reduceCtorEq,Tp]);congr 1;omega,ho,by(try dsimp only);omega,fun x _ _=>rfl⟩ ?_
 rintro m env_b st_b ⟨i,rfl,yk,nG,b2,b3,bg,bn,e9⟩ bkp
 have b0:=bkp 0 (by kernel_rfl)
 simp only[go_sem, ↓reduceIte,Nat.reduceEqDiff,Nat.reduceAdd,Nat.reduceSub,Nat.reduceLeDiff,reduceCtorEq]at b0
 clear bkp
 have tl:=gn (lS l i) l.length
 have kI:=dx (i:=o) (n:=st_b.next) (by omega)
 by_cases hi:(i:Int)<(l.length:Int)-1-i
 ·have fU:i<l.length:=by omega
  obtain⟨j,hj⟩:∃j,j=l.length-1-i:=⟨_,rfl⟩
  have iM:j<l.length:=by omega
  have Lv:(l.length:Int)-1-i=(j:Int):=by omega
  rw[Lv]at b3 hi
  have g1:=fm (f:=lS l i) fU
  have g2:=fm (f:=lS l i) iM
  have e1:lS l i i=l.getD i 0:=by unfold lS;rw[if_neg (by omega)]
  have e2:lS l i j=l.getD j 0:=by unfold lS;rw[if_neg (by omega)]
  have Nr:(dC (lS l i) l.length).set i (eN (l.getD j 0))=dC (fun x=>if x=i then l.getD j 0 else lS l i x) l.length:=pH fU (if_pos rfl) fun x _ hx=>if_neg hx
  have Jb:(dC (fun x=>if x=i then l.getD j 0 else lS l i x) l.length).set j (eN (l.getD i 0))=dC (lS l (i+1)) l.length:=pH iM (by unfold lS;rw[if_pos (by omega)];congr 1;omega) fun x hx Qv=>by
   by_cases CN:x=i
   ·rw[if_pos CN];unfold lS;rw[if_pos (by omega)];congr 1;omega
   ·rw[if_neg CN];unfold lS
    by_cases hc:x<i∨l.length-i<=x
    ·rw[if_pos hc,if_pos (by omega)]
    ·rw[if_neg hc,if_neg (by omega)]
  have Tu:=gn (fun x=>if x=i then l.getD j 0 else lS l i x) l.length
  have g3:=fm (f:=fun x=>if x=i then l.getD j 0 else lS l i x) iM
  rw[e1]at g1
  rw[e2]at g2
  rw[if_neg (by omega),e2]at g3
  rw[eN]at g1 g2 g3 Nr Jb
  have hii:(i:Int)<(l.length:Int):=by omega
  have mD:(j:Int)<(l.length:Int):=by omega
  have oP:IntKind.i64.wrap ((i:Int)+1)=((i+1:Nat):Int):=az (by omega)
  have vV:IntKind.i64.wrap ((j:Int)-1)=(l.length:Int)-1-((i+1:Nat):Int):=by rw[bx (by omega)];omega
  (try((repeat(revert hN;revert N;apply Pn.out));refine wk (tw @b0 (tw @b2 (tw @b3 (tw @bg (tw @hi (tw @hii (tw @mD (tw @g1 (tw @g2 (tw @g3 (tw @Nr (tw @Jb (tw @tl (tw @Tu (tw @kI (tw @oP @vV)))))))))))))))) ?_;(repeat(refine Pn.mk ?_;intro N hN))))
  refine⟨_,?_,i+1,rfl,by omega,by omega,sd @oP,sd @vV,sd @Jb,by(try dsimp only);omega,fun x hx AF=>?_⟩
  ·omega
  ·have:=e9 x hx AF
   simp only[go_sem, ↓reduceIte,Nat.reduceEqDiff,Nat.reduceAdd,Nat.reduceSub,Nat.reduceLeDiff,reduceCtorEq,AF,this]
 ·rw[JV l (by omega) nG]at bg
  (try((repeat(revert hN;revert N;apply Pn.out));refine wk (tw @b0 (tw @b2 (tw @b3 (tw @bg @hi)))) ?_;(repeat(refine Pn.mk ?_;intro N hN))))
  exact fb (.inr rfl) (vs:=[]) (by simp only[fq,go_sem, ↓reduceIte,Nat.reduceEqDiff,Nat.reduceAdd,Nat.reduceSub,Nat.reduceLeDiff,reduceCtorEq]) ⟨bg,by(try dsimp only);omega,e9⟩
theorem Sn (cnt:Nat) (zC:1<=cnt) (hn:cnt<=1048576) (c f:Nat->Nat->Int) (x y:Nat) (hx:x<cnt) (hy:y<cnt):
  l5 Tryz.prog 266 [.dm (lF cnt c f),.int .i64 x,.int .i64 y] fun r=>(r=.bV/\∃S:Nat->Bool,S x=true/\S y=false/\∀u v,u<cnt->v<cnt->S u=true->S v=false->¬f u v<c u v)∨∃p:List Nat,r=.sl (p.map eN)/\QG cnt c f x y p:=by
 refine l5.body eL rfl fun hl n0=>?_
 clear hl
 have lM:=xc c cnt
 have jG:(0:Int)<=(cnt:Int):=by omega
 have CN:(x:Int)<(cnt:Int):=by omega
 have Ts:(y:Int)<(cnt:Int):=by omega
 (try((repeat(revert hN;revert N;apply Pn.out));refine wk (tw @lF.eq_1 @lM) ?_;(repeat(refine Pn.mk ?_;intro N hN))))
 refine .inr (aI _ _ _ _ _ (fun r σ1 hq=>?_) (JT cnt zC hn (-1) ⟨266002000,n0+1+1⟩ _ (sd @Nat.zero_add) (by(try dsimp only);omega)))
 obtain⟨o,rfl,ho,LD,LF,lY⟩:=hq
 (try dsimp only at ho LD LF lY)
 refine hN _ _ ?_
 clear hN N
 have kI:=dx LF
 have pS:(cnt:Int)<=1048576:=by omega
 have Rh:qx<qx+cnt:=by omega
 have gZ:List.replicate cnt [AV.int .i64 (-1)]=dV (fun _=>-1) cnt:=by
  refine List.ext_getElem? fun i=>?_
  by_cases h:i<cnt
  ·rw[dO h,List.getElem?_replicate,if_pos h];rfl
  ·rw[List.getElem?_eq_none (by simp;omega),List.getElem?_eq_none (by rw[dB];omega)]
 rw[gZ]at ho
 have BG:(dV (fun _=>-1) cnt).set x (aw (x:Int))=dV (fun v=>if v=x then(x:Int)else -1) cnt:=lh hx (if_pos rfl) fun v _ hv=>if_neg hv
 have hg0:=dO (f:=fun _=>-1) hx
 have tl0:=dB (fun _=>-1) cnt
 rw[aw]at BG hg0
 (try((repeat(revert hN;revert N;apply Pn.out));refine wk (tw @lF.eq_1 (tw @lM (tw @jG (tw @pS @kI)))) ?_;(repeat(refine Pn.mk ?_;intro N hN))))
 refine Kq ?_
 simp only[go_sem, ↓reduceIte,Nat.reduceEqDiff,Nat.reduceAdd,Nat.reduceSub,Nat.reduceLeDiff,reduceCtorEq,Rh]
 refine hN _ _ ?_
 clear hN N
 (try((repeat(revert hN;revert N;apply Pn.out));refine wk (tw @ho (tw @kI (tw @BG (tw @hg0 (tw @tl0 @CN))))) ?_;(repeat(refine Pn.mk ?_;intro N hN))))
 obtain⟨C,hC⟩:∃C:Id,C=⟨266003001,σ1.next+1⟩:=⟨_,rfl⟩
 have Rz:=dt (a:=o) (b:=C) (by rw[hC];(try dsimp only);omega)
 have hCv:C.bm=σ1.next+1:=by rw[hC]
 refine aM (fun m env st=>∃(par:Nat->Int) (Q:List Nat) (i:Nat),m=cnt-i/\Bq cnt c f x par Q i/\st.get o=some ⟨true,1,dV par cnt⟩/\st.get C=some ⟨true,qx+cnt,(Q.drop i).map eN⟩/\σ1.next+1<st.next) cnt ⟨_,[x],0,rfl,Bq.start hx,sd @kI,by rw[hC];simp only[go_sem, ↓reduceIte,Nat.reduceEqDiff,Nat.reduceAdd,Nat.reduceSub,Nat.reduceLeDiff,reduceCtorEq,kI];rfl,by(try dsimp only);omega⟩ ?_
 rintro m env_b st_b ⟨par,Q,i,rfl,hB,bgo,bgC,bn⟩ bkp
 have b0:=bkp 0 (by kernel_rfl)
 have b1:=bkp 1 (by kernel_rfl)
 have b2:=bkp 2 (by kernel_rfl)
 have b7:=bkp 7 (by kernel_rfl)
 have b8:=bkp 8 (by kernel_rfl)
 have b9:=bkp 9 (by kernel_rfl)
 rw[<-hC]at b9
 simp only[go_sem, ↓reduceIte,Nat.reduceEqDiff,Nat.reduceAdd,Nat.reduceSub,Nat.reduceLeDiff,reduceCtorEq]at b0 b1 b2 b7 b8 b9
 clear bkp
 have hQn:=hB.len
 have nG:=hB.ile
 have S3:((Q.drop i).map eN).length=Q.length-i:=by simp
 by_cases hi:i<Q.length
 ·have lu:(0:Int)<((Q.length-i:Nat):Int):=by omega
  have sE:Q.drop i=Q[i]::Q.drop (i+1):=List.drop_eq_getElem_cons hi
  obtain⟨u,hu⟩:∃u,u=Q[i]:=⟨_,rfl⟩
  have hun:u<cnt:=by rw[hu];exact hB.lt _ (List.getElem_mem hi)
  rw[<-hu]at sE
  (try((repeat(revert hN;revert N;apply Pn.out));refine wk (tw @b0 (tw @b1 (tw @b2 (tw @b7 (tw @b8 (tw @b9 (tw @bgC (tw @S3 @lu)))))))) ?_;(repeat(refine Pn.mk ?_;intro N hN))))
  refine Kq ?_
  rw[sE,List.map_cons,show eN u=[.int .i64 (u:Int)]from rfl]at bgC
  simp only[go_sem, ↓reduceIte,Nat.reduceEqDiff,Nat.reduceAdd,Nat.reduceSub,Nat.reduceLeDiff,reduceCtorEq,b9,bgC]
  refine hN _ _ ?_
  clear hN N
  (try((repeat(revert hN;revert N;apply Pn.out));refine wk @b7 ?_;(repeat(refine Pn.mk ?_;intro N hN))))
  refine aM (fun m env st=>∃(v:Nat) (par':Nat->Int) (Q':List Nat),m=cnt-v/\v<=cnt/\env 36=.int .i64 (v:Int)/\Bq cnt c f x par' Q' i/\(∃h:i<Q'.length,Q'[i]=u)/\st.get o=some ⟨true,1,dV par' cnt⟩/\st.get C=some ⟨true,qx+cnt,(Q'.drop (i+1)).map eN⟩/\σ1.next+1<st.next/\∀w,w<v->f u w<c u w->0<=par' w) cnt ⟨0,par,Q,rfl,Nat.zero_le _,by(simp only[go_sem, ↓reduceIte,Nat.reduceEqDiff,Nat.reduceAdd,Nat.reduceSub,Nat.reduceLeDiff,reduceCtorEq])<;>rfl,hB,⟨hi,hu.symm⟩,sd (tw @Rz @bgo),sd @Rz,by(try dsimp only);omega,fun w hw=>absurd hw (Nat.not_lt_zero w)⟩ ?_
  rintro m env_c st_c ⟨v,par',Q',rfl,hvn,c36,dD,⟨rh,Fv⟩,xZ,cgC,cn,dQ⟩ ckp
  have c0:=ckp 0 (by kernel_rfl)
  have c1:=ckp 1 (by kernel_rfl)
  have c2:=ckp 2 (by kernel_rfl)
  have c7:=ckp 7 (by kernel_rfl)
  have c8:=ckp 8 (by kernel_rfl)
  have c9:=ckp 9 (by kernel_rfl)
  have jy:=ckp 10 (by kernel_rfl)
  have N2:=ckp 35 (by kernel_rfl)
  simp only[go_sem, ↓reduceIte,Nat.reduceEqDiff,Nat.reduceAdd,Nat.reduceSub,Nat.reduceLeDiff,reduceCtorEq,b0,b1,b2,b7,b8,b9]at c0 c1 c2 c7 c8 c9 jy N2
  clear ckp
  have tl:=dB par' cnt
  by_cases hv:(v:Int)<(cnt:Int)
  ·have DV:v<cnt:=by omega
   have OF:=dO (f:=par') DV
   have lY:=Od cnt c f u v hun DV
   have hw:IntKind.i64.wrap ((v:Int)+1)=((v+1:Nat):Int):=az (by omega)
   rw[aw]at OF
   rw[lF]at lY
   by_cases j6:par' v<0
   ·by_cases hr:f u v<c u v
    ·rw[decide_eq_true hr]at lY
     have dS:(dV par' cnt).set v (aw (u:Int))=dV (fun w=>if w=v then(u:Int)else par' w) cnt:=lh DV (if_pos rfl) fun w _ hw=>if_neg hw
     rw[aw]at dS
     have pR:=dD.visit rh DV j6 (by rw[Fv];exact hr)
     rw[Fv]at pR
     have hQ2:=pR.len
     rw[List.length_append]at hQ2
     simp only[List.length_singleton]at hQ2
     have gh:qx+(Q'.drop (i+1)).length<qx+cnt:=by rw[List.length_drop];omega
     (repeat(first|((repeat(revert hN;revert N;apply Pn.out));refine wk (tw @lF.eq_1 (tw @c0 (tw @c7 (tw @c8 (tw @c9 (tw @jy (tw @c36 (tw @N2 (tw @hv (tw @xZ (tw @OF (tw @tl (tw @j6 @dS))))))))))))) ?_;(repeat(refine Pn.mk ?_;intro N hN)))|((try apply Or.inl);refine⟨_,aq.x (lY) (sd (tw @lF.eq_1 (tw @c0 (tw @c7 (tw @c8 (tw @c9 (tw @jy (tw @c36 (tw @N2 (tw @hv (tw @xZ (tw @OF (tw @tl (tw @j6 @dS)))))))))))))),?_⟩;refine hN _ _ ?_;clear hN N)))
     refine Kq ?_
     have hq:(Q'.drop (i+1)).map eN++[[.int .i64 (v:Int)]]=((Q'++[v]).drop (i+1)).map eN:=by rw[List.drop_append_of_le_length (by omega),List.map_append];rfl
     simp only[go_sem, ↓reduceIte,Nat.reduceEqDiff,Nat.reduceAdd,Nat.reduceSub,Nat.reduceLeDiff,reduceCtorEq,c9,cgC,gh,Rz,hq]
     refine hN _ _ ?_
     clear hN N
     (try((repeat(revert hN;revert N;apply Pn.out));refine wk (tw @c36 @hw) ?_;(repeat(refine Pn.mk ?_;intro N hN))))
     refine⟨_,?_,v+1,_,_,rfl,DV,sd @hw,pR,⟨by rw[List.length_append];omega,by rw[List.getElem_append_left rh];exact Fv⟩,sd @Rz,sd @Rz,by(try dsimp only);omega,fun w hw Ja=>?_⟩
     ·omega
     ·by_cases Fw:w=v
      ·rw[if_pos Fw];omega
      ·rw[if_neg Fw];exact dQ w (by omega) Ja
    ·rw[decide_eq_false hr]at lY
     (repeat(first|((repeat(revert hN;revert N;apply Pn.out));refine wk (tw @lF.eq_1 (tw @c0 (tw @c7 (tw @c8 (tw @c9 (tw @jy (tw @c36 (tw @N2 (tw @hv (tw @xZ (tw @OF (tw @tl (tw @j6 @hw))))))))))))) ?_;(repeat(refine Pn.mk ?_;intro N hN)))|((try apply Or.inl);refine⟨_,aq.x (lY) (sd (tw @lF.eq_1 (tw @c0 (tw @c7 (tw @c8 (tw @c9 (tw @jy (tw @c36 (tw @N2 (tw @hv (tw @xZ (tw @OF (tw @tl (tw @j6 @hw)))))))))))))),?_⟩;refine hN _ _ ?_;clear hN N)))
     refine⟨_,?_,v+1,par',Q',rfl,DV,sd @hw,dD,⟨rh,Fv⟩,sd @xZ,sd @cgC,by(try dsimp only);omega,fun w hw Ja=>?_⟩
     ·omega
     ·by_cases Fw:w=v
      ·subst Fw;exact absurd Ja hr
      ·exact dQ w (by omega) Ja
   ·(try((repeat(revert hN;revert N;apply Pn.out));refine wk (tw @lF.eq_1 (tw @c0 (tw @c7 (tw @c8 (tw @c9 (tw @jy (tw @c36 (tw @N2 (tw @hv (tw @xZ (tw @OF (tw @tl (tw @j6 @hw))))))))))))) ?_;(repeat(refine Pn.mk ?_;intro N hN))))
    refine⟨_,?_,v+1,par',Q',rfl,DV,sd @hw,dD,⟨rh,Fv⟩,sd @xZ,sd @cgC,by(try dsimp only);omega,fun w hw Ja=>?_⟩
    ·omega
    ·by_cases Fw:w=v
     ·subst Fw;omega
     ·exact dQ w (by omega) Ja
  ·have Vf:v=cnt:=by omega
   subst Vf
   (try((repeat(revert hN;revert N;apply Pn.out));refine wk (tw @c36 (tw @N2 @hv)) ?_;(repeat(refine Pn.mk ?_;intro N hN))))
   refine⟨_,?_,par',Q',i+1,rfl,dD.next rh fun w hw hr=>dQ w hw (by rw[<-Fv];exact hr),sd @xZ,sd @cgC,by(try dsimp only);omega⟩
   omega
 ·have hiQ:i=Q.length:=by omega
  subst hiQ
  have lu:¬(0:Int)<((Q.length-Q.length:Nat):Int):=by omega
  have UK:=dO (f:=par) hy
  have tl:=dB par cnt
  rw[aw]at UK
  by_cases j6:par y<0
  ·(try((repeat(revert hN;revert N;apply Pn.out));refine wk (tw @b0 (tw @b1 (tw @b2 (tw @b7 (tw @b8 (tw @b9 (tw @bgC (tw @S3 (tw @lu (tw @bgo (tw @UK (tw @tl (tw @Ts @j6))))))))))))) ?_;(repeat(refine Pn.mk ?_;intro N hN))))
   exact⟨[.bV],sd @Nat.zero_add,.bV,j4 _ _,.inl ⟨rfl,hB.cut hy j6⟩⟩
  ·(try((repeat(revert hN;revert N;apply Pn.out));refine wk (tw @b0 (tw @b1 (tw @b2 (tw @b7 (tw @b8 (tw @b9 (tw @bgC (tw @S3 (tw @lu (tw @bgo (tw @UK (tw @tl (tw @Ts @j6))))))))))))) ?_;(repeat(refine Pn.mk ?_;intro N hN))))
   refine aM (fun m env st=>∃(k:Nat) (out:List Nat) (p:Id),m=Q.idxOf k/\env 13=.int .i64 (k:Int)/\env 12=.own p 0 out.length/\st.get p=some ⟨true,1,out.map eN⟩/\p.bm<st.next/\st_b.next<=p.bm/\k∈Q/\uQ c f Q y k out/\st.get o=some ⟨true,1,dV par cnt⟩) (Q.idxOf y) ⟨y,[y],⟨266017001,st_b.next+1+1⟩,rfl,by(simp only[go_sem, ↓reduceIte,Nat.reduceEqDiff,Nat.reduceAdd,Nat.reduceSub,Nat.reduceLeDiff,reduceCtorEq]),by(simp only[go_sem, ↓reduceIte,Nat.reduceEqDiff,Nat.reduceAdd,Nat.reduceSub,Nat.reduceLeDiff,reduceCtorEq])<;>rfl,by(simp only[go_sem, ↓reduceIte,Nat.reduceEqDiff,Nat.reduceAdd,Nat.reduceSub,Nat.reduceLeDiff,reduceCtorEq])<;>rfl,by(try dsimp only);omega,by(try dsimp only);omega,(hB.iff y hy).1 (by omega),uQ.start ((hB.iff y hy).1 (by omega)),by(have Qt:=dx (i:=o) (n:=st_b.next) (by omega));simp only[go_sem, ↓reduceIte,Nat.reduceEqDiff,Nat.reduceAdd,Nat.reduceSub,Nat.reduceLeDiff,reduceCtorEq,Qt,bgo]⟩ ?_
   rintro m env_d st_d ⟨k,out,p,rfl,d13,d12,dgp,dpn,dpo,hkQ,uG,dgo⟩ dkp
   have d1:=dkp 1 (by kernel_rfl)
   have d8:=dkp 8 (by kernel_rfl)
   simp only[go_sem, ↓reduceIte,Nat.reduceEqDiff,Nat.reduceAdd,Nat.reduceSub,Nat.reduceLeDiff,reduceCtorEq,b1,b8]at d1 d8
   clear dkp
   have AD:=dx dpn
   have BJ:=dx (i:=o) (n:=st_d.next) (by omega)
   have dK:=dt (a:=o) (b:=p) (by omega)
   have hol:=uG.len hB.lt
   have eX:=hB.lt k hkQ
   have lH:(out.map eN).length=out.length:=by simp
   by_cases S8:k=x
   ·have hd:decide ((k:Int)=(x:Int))=true:=decide_eq_true (by rw[S8])
    have U5:0<out.length:=by
     obtain⟨rest,h1,_⟩:=uG
     rw[<-List.length_reverse,h1];simp
    (try((repeat(revert hN;revert N;apply Pn.out));refine wk (tw @d1 (tw @d8 (tw @d12 (tw @d13 (tw @hd @Bool.not_true))))) ?_;(repeat(refine Pn.mk ?_;intro N hN))))
    refine .inr (aI _ _ _ _ _ (fun r σ2 hq=>?_) (Hf out U5 (by omega) p _ dgp (by(try dsimp only);omega)))
    obtain⟨OC,mV,IW⟩:=hq
    refine hN _ _ ?_
    clear hN N
    (try((repeat(revert hN;revert N;apply Pn.out));refine wk @d12 ?_;(repeat(refine Pn.mk ?_;intro N hN))))
    refine⟨[.own p 0 out.length],sd @d12,.sl (out.reverse.map eN),?_,.inr ⟨out.reverse,rfl,by subst S8;exact uG.way hB.lt⟩⟩
    exact fI (sz:=1) OC (by simp) fun a=>Oe _ 4 a
   ·have hd:decide ((k:Int)=(x:Int))=false:=decide_eq_false fun h=>S8 (by omega)
    obtain⟨u,huQ,hpu,zA,hr⟩:=hB.up k hkQ S8
    have eM:=dO (f:=par) eX
    rw[aw,hpu]at eM
    have hki:(k:Int)<(cnt:Int):=by omega
    have e1:out.length+1<=16777216:=by omega
    (try((repeat(revert hN;revert N;apply Pn.out));refine wk (tw @d1 (tw @d8 (tw @d12 (tw @d13 (tw @hd (tw @Bool.not_false (tw @dgo (tw @dgp (tw @eM (tw @tl (tw @hki (tw @AD (tw @BJ (tw @dK (tw @lH @e1))))))))))))))) ?_;(repeat(refine Pn.mk ?_;intro N hN))))
    refine⟨_,zA,u,out++[u],⟨266021003,st_d.next+1+1⟩,rfl,sd @Nat.zero_add,by rw[List.length_append];simp only[go_sem, ↓reduceIte,Nat.reduceEqDiff,Nat.reduceAdd,Nat.reduceSub,Nat.reduceLeDiff,reduceCtorEq,List.length_cons,List.length_nil],by rw[List.map_append,List.map_cons,List.map_nil];simp only[go_sem, ↓reduceIte,Nat.reduceEqDiff,Nat.reduceAdd,Nat.reduceSub,Nat.reduceLeDiff,reduceCtorEq,eN],by(try dsimp only);omega,by(try dsimp only);omega,huQ,uG.step huQ zA hr,sd (tw @BJ (tw @dK @dgo))⟩
end Go.Proofs.YtgoelphibofcmaaGreat.V
