/- Growth inside an assembly, by the program: the rounds. -/
import Derived.Test.YtiabgllilcfheaaGreatCmD
import Derived.Test.YtiabgllilcfheaaGreatCmB
import Derived.RangeFuncNested
import Derived.RangeFuncBound
import Derived.RangeFuncCalls
import Derived.RangeFuncLeaves
import Derived.Shelf.Abstract
import Derived.Shelf.RegionOpen
import Derived.WalkKit
import Derived.OwnWalkIn
import Derived.TacticsInMore
import Derived.LoopNIn
import Derived.LoopIn
import Derived.BigQuiet
import Derived.Test.YtiabgllilcfheaaGreatCmC
import Derived.RangeFuncBox
import Derived.RangeFuncWrites
import Derived.Maps.AppendAt
import Derived.OrdersIn
set_option linter.unusedVariables false
set_option linter.unusedSimpArgs false
set_option maxRecDepth 100000
set_option maxHeartbeats 16000000
namespace Go.Proofs.YtiabgllilcfheaaGreat.V
open Go.RowKit
attribute [local irreducible] er wpOps fY Call
attribute [local go_sem] aF fC eR fN fK du upd cw K.av cQ AV.cells AV.cell rowOf rowsOf part ld rowAt bK cq dH dX gG bP dd eh fJ fa dw ea db da dM dP bV bd cU bU cW cV dV eb dZ cR bY dc dY bQ aD cY cF gF bD cL bW aY dn bj dI AV.undef bH bJ dQ dW dL dK cK ef eo cz ee ec cX cZ List.getD_cons_zero List.getD_cons_succ List.getD_nil List.all_cons List.all_nil Bool.and_true Bool.true_and Bool.and_self Bool.not_true Bool.not_false Option.map_some Option.map_none Option.bind_some Option.bind_none List.length_cons List.length_nil List.take_succ_cons List.take_zero List.take_nil List.drop_succ_cons List.drop_zero List.drop_nil List.head?_cons List.map_cons List.map_nil List.getElem?_cons_zero List.getElem?_cons_succ List.cons_append List.nil_append List.append_nil List.length_map List.set_cons_zero List.set_cons_succ Nat.reduceMul eq_self Int.toNat_natCast Int.natCast_nonneg and_self true_and and_true decide_true decide_false Bool.false_eq_true Nat.zero_add Nat.add_zero List.contains_cons List.contains_nil Bool.or_false Bool.false_or beq_self_eq_true Nat.reduceBEq ne_eq not_true_eq_false not_false_eq_true Id.mk.injEq false_and and_false Nat.reduceLT Int.reduceLE Int.reduceLT Int.reduceToNat Int.reduceNeg Int.reduceAdd Nat.le_refl List.length_append beq_true beq_false Bool.not_eq_eq_eq_not or_false false_or eu ai aj aP bh bZ cm aW bx aK bf cP bI
theorem mB.three {g g':Rows} {n n':Nat} {c T O:Id} {s:aw} {ts:List aa} (h:mB g n c T O s ts) (hn:n<=n') (hc:g' c=g c) (hT:g' T=g T) (hO:g' O=g O):mB g' n' c T O s ts:=
 ⟨hc.trans h.row,hT.trans h.tl,by rw[hO];exact h.op,Nat.lt_of_lt_of_le h.cv hn,Nat.lt_of_lt_of_le h.tv hn,Nat.lt_of_lt_of_le h.ov hn,h.cT,h.cO,h.TO⟩
theorem Bl (q:aa):∀l:List aa,(l++[q]).Perm (iG l q)
 |[]=>List.Perm.refl _
 |x::l=>by
  have ih:=Bl q l
  rw[iG]
  split
  ·exact List.perm_append_comm (l₁:=x::l) (l₂:=[q])
  ·exact ih.cons x
structure qa (s:aw) (S:iT):Prop where
 at_:∀q,fe (s.cj.aq++S.1) q=fe S.2 q
 perm:(s.cj.aq++S.1).Perm S.2
theorem qa.fit {s:aw} {S:iT} (h:qa s S) (p:ar) (t:Int):fW s (s.cj.aq++S.1) p t=fW s S.2 p t:=by
 have e:fe (s.cj.aq++S.1)=fe S.2:=funext h.at_
 unfold fW
 rw[e]
theorem qa.no {s:aw} {S:iT} (h:qa s S) {p:ar} (h0:eO S.2 p<0):eO (s.cj.aq++S.1) p<0:=mY.2 fun t ht=>mY.1 h0 t (h.perm.subset ht)
theorem qa.put {s:aw} {S:iT} (h:qa s S) {x:aa} (h0:eO S.2 x.aV<0):qa s (S.1++[x],iG S.2 x) where
 at_ q:=by
  show fe (s.cj.aq++(S.1++[x])) q=fe (iG S.2 x) q
  rw[<-List.append_assoc,BH q (mY.1 (h.no h0)),Dm q (mY.1 h0),h.at_]
 perm:=by
  show(s.cj.aq++(S.1++[x])).Perm (iG S.2 x)
  rw[<-List.append_assoc]
  exact(h.perm.append_right [x]).trans (Bl x S.2)
structure QO (σ:ax) (m:Nat) (c T O:Id) (s:aw) (l:List aa) (S:iT) (e7:AV) (g:Rows) (n:Nat):Prop where
 C3:mB g n c T O s (s.cj.aq++S.1)
 u:(S.1=[]/\e7=.ck)∨∃u:Id,e7=.own u 0 S.1.length/\g u=some ⟨true,3,S.1.map ab⟩/\m<=u.bt/\u.bt<n/\0<S.1.length
 lo:m<=n
 fr:∀x:Id,x.bt<m->x≠T->x≠O->x≠c->g x=σ.get x
theorem QO.frame {σ:ax} {m:Nat} {c T O:Id} {s:aw} {l:List aa} {S:iT} {e7 U8:AV} {g g':Rows} {n n':Nat} (h:QO σ m c T O s l S e7 g n) (he:U8=e7) (hn:n<=n') (hf:∀x:Id,x.bt<n->g' x=g x):QO σ m c T O s l S U8 g' n' where
 C3:=h.C3.frame hn hf
 u:=by
  subst he
  rcases h.u with h1|⟨u,h1,h2,h3,h4,h5⟩
  ·exact .inl h1
  ·exact .inr ⟨u,h1,(hf u h4).trans h2,h3,ae,h5⟩
 lo:=Nat.le_trans h.lo hn
 fr x hx h1 h2 h3:=(hf x (Nat.lt_of_lt_of_le hx h.lo)).trans (h.fr x hx h1 h2 h3)
theorem Ep (s:aw) (hP:BE s) (l:List aa) (hA:gH s.aZ l) (hW:fw s.cj.aq l=true) (σ:ax):Call Tryz.prog 36 [.agg (aH s),.agg [.sl (l.map ab)]] σ (fun r σ'=>∃v o,r=.ib [v,.agg [.own o 0 (jl s l).2.length]]/\(((jl s l).1=[]/\v=.ck)∨∃u:Id,v=.own u 0 (jl s l).1.length/\σ'.get u=some ⟨true,3,(jl s l).1.map ab⟩/\σ.next<=u.bt/\u.bt<σ'.next/\u.bt<o.bt/\0<(jl s l).1.length)/\σ'.get o=some ⟨true,3,(jl s l).2.map ab⟩/\σ.next<=o.bt/\o.bt<σ'.next/\∀x:Id,x.bt<σ.next->σ'.get x=σ.get x):=by
 refine ij fF rfl fun jc=>?_
 clear jc
 have F8:=hA.1.nO
 have Om:=rj hP hA hW
 have Qo:=Om.nO
 (try dsimp only at Qo)
 have hsf:=hP.kQ
 (try((repeat(revert hN;revert N;apply Pn.out));refine wk @aH.eq_1 ?_;(repeat(refine Pn.mk ?_;intro N hN))))
 have hc:=fun σ=>Cy s hP.set s.cj.aq hP.kQ σ
 rw[aH]at hc
 refine .inr (aA _ _ _ _ _ (fun r σ1 hq=>?_) (hc _))
 obtain⟨g1,x1⟩:=σ1
 obtain⟨c,T,O,rfl,hC,Xj,Xd,hOv,pr,jn⟩:=hq
 (try dsimp only at hC Xj Xd hOv pr jn)
 have k3:=jn ⟨36000001,σ.next⟩ aU
 have k5:=jn ⟨36000003,σ.next⟩ aU
 simp only[go_sem, ↓reduceIte,Nat.reduceEqDiff,Nat.reduceAdd,Nat.reduceSub,Nat.reduceLeDiff,reduceCtorEq]at k3 k5
 have hcx:=hC.cv
 have hTx:=hC.tv
 have hOx:=hC.ov
 refine hN _ _ ?_
 clear hN N
 (try((repeat(revert hN;revert N;apply Pn.out));refine wk (tw @k3 (tw @k5 @aH.eq_1)) ?_;(repeat(refine Pn.mk ?_;intro N hN))))
 refine bz (fun n env st=>∃(S:iT) (m:Nat) (go:Bool),n=(if go then m else 0)/\env 8=.bool go/\(go=true->pP s l m S=jl s l/\qu l S.2<m)/\(go=false->S=jl s l)/\pA s l S/\qa s S/\QO ⟨g1,x1⟩ x1 c T O s l S (env 7) st.get st.next) (l.length+1) ⟨([],s.cj.aq),l.length+1,true,rfl,sd @Nat.zero_add,fun _=>⟨rfl,by have:=HA l s.cj.aq;(try dsimp only);omega⟩,fun h=>(by cases h),Om,⟨fun q=>by simp,by simp⟩,?_⟩ ?_
 ·refine⟨?_,.inl ⟨rfl,sd @Nat.zero_add⟩,aU,fun x hx h1 h2 h3=>sd @Nat.zero_add⟩
  have:=hC.frame (g':=g1) (n':=x1+1+1+1) ae fun x hx=>rfl
  simpa using this
 rintro n1 e1 st1 ⟨S,m,go,rfl,e8,ub,hend,hI,hSm,hR⟩ hk
 have c3:=hk 3 (by kernel_rfl)
 have c5:=hk 5 (by kernel_rfl)
 have c6:=hk 6 (by kernel_rfl)
 simp only[go_sem, ↓reduceIte,Nat.reduceEqDiff,Nat.reduceAdd,Nat.reduceSub,Nat.reduceLeDiff,reduceCtorEq]at c3 c5 c6
 clear hk hc
 have nv:∀{x y:Id},x.bt<y.bt->x≠y:=fun h e=>by rw[e]at h;omega
 have b3:=(hR.fr ⟨36000001,σ.next⟩ aU (nv aU) (nv aU) (nv aU)).trans k3
 have b5:=(hR.fr ⟨36000003,σ.next⟩ aU (nv aU) (nv aU) (nv aU)).trans k5
 have Vn:=hR.lo
 cases go
 ·have hS:=hend rfl
  subst hS
  clear hend ub
  (try((repeat(revert hN;revert N;apply Pn.out));refine wk (tw @e8 @c6) ?_;(repeat(refine Pn.mk ?_;intro N hN))))
  have yK:=hI.len
  have hsf2:=hI.nO
  refine .inr (aA _ _ _ _ _ (fun r σ2 hq=>?_) (FE (σ:=⟨st1.get,_⟩) (L:=(jl s l).2) (hR.C3.frame aU fun x _=>rfl) (by rw[List.length_append];omega) (fun e=>by have:=congrArg List.length e;rw[List.length_append,List.length_nil]at this;have:=hP.some;omega) hI.om hSm.perm))
  obtain⟨g2,x2⟩:=σ2
  obtain⟨o,rfl,q1,q2,q3,q4,q5⟩:=hq
  (try dsimp only at q1 q2 q3 q4 q5)
  have d5:=(q5 ⟨36000003,σ.next⟩ aU (nv aU)).trans b5
  refine hN _ _ ?_
  clear hN N
  (try((repeat(revert hN;revert N;apply Pn.out));refine wk (tw @c5 (tw @d5 @c6)) ?_;(repeat(refine Pn.mk ?_;intro N hN))))
  have vv:∀x:Id,σ.next<x.bt->(x=(⟨36000003,σ.next⟩:Id))=False:=fun x hx=>eq_false fun e=>by rw[e]at hx;(try dsimp only at hx);omega
  have vo:=vv o ae
  refine gN (.inl rfl) (vs:=[e1 7,.agg [.own o 0 (jl s l).2.length]]) (sd @c5) ⟨_,o,rfl,?_,sd (tw @vo @q1),ae,aU,fun x hx=>?_⟩
  ·rcases hR.u with h1|⟨u,h1,h2,h3,h4,h40⟩
   ·exact .inl h1
   ·have vu:=vv u ae
    have h5:=(q5 u aU (fun e=>by rw[e]at h3;omega)).trans h2
    exact .inr ⟨u,h1,sd (tw @vu @h5),ae,aU,by(try dsimp only at q2);omega,h40⟩
  ·have h1:=dj hx
   have h2:=q5 x ae (nv ae)
   have h3:=hR.fr x ae (nv ae) (nv ae) (nv ae)
   have h4:=jn x aU
   simp only[go_sem, ↓reduceIte,Nat.reduceEqDiff,Nat.reduceAdd,Nat.reduceSub,Nat.reduceLeDiff,reduceCtorEq,h1]at h4
   (try dsimp only at h3)
   simp only[go_sem, ↓reduceIte,Nat.reduceEqDiff,Nat.reduceAdd,Nat.reduceSub,Nat.reduceLeDiff,reduceCtorEq,h1]
   exact h2.trans (h3.trans h4)
 ·obtain⟨hF,hm⟩:=ub rfl
  clear hend ub
  have HL:gV s l S 0=S:=by simp[gV]
  (try((repeat(revert hN;revert N;apply Pn.out));refine wk (tw @e8 (tw @c3 @b3)) ?_;(repeat(refine Pn.mk ?_;intro N hN))))
  refine bz (fun n env st=>∃i:Nat,n=(l.length)-i/\i<=(l.length)/\env 19=.int .i64 (i:Int)/\(env 8=.bool (decide ((gV s l S i).1.length≠S.1.length))/\qa s (gV s l S i)/\QO ⟨g1,x1⟩ x1 c T O s l (gV s l S i) (env 7) st.get st.next)) (l.length) ⟨0,ae,ae,sl (tw @c3 (tw @c5 @c6)),by(try dsimp only);exact⟨by rw[HL];simp only[go_sem, ↓reduceIte,Nat.reduceEqDiff,Nat.reduceAdd,Nat.reduceSub,Nat.reduceLeDiff,reduceCtorEq]<;>simp,by rw[HL];exact hSm,by rw[HL];exact hR.frame (sd @Nat.zero_add) aU fun x _=>rfl⟩⟩ ?_
  rintro n_b env_b st_b ⟨i,rfl,ble,b19,bI0⟩ eW
  have b3:=eW 3 (by kernel_rfl);have b5:=eW 5 (by kernel_rfl);have b6:=eW 6 (by kernel_rfl);have Ns:=eW 17 (by kernel_rfl);have Nt:=eW 18 (by kernel_rfl)
  simp only[go_sem, ↓reduceIte,Nat.reduceEqDiff,Nat.reduceAdd,Nat.reduceSub,Nat.reduceLeDiff,reduceCtorEq,c3,c5,c6]at b3 b5 b6 Ns Nt
  clear eW
  obtain⟨b8,bS,bR⟩:=bI0
  obtain⟨C7,D7,AL⟩:=wc hI hA i ae
  by_cases hi:(i:Int)<(l.length:Int)
  ·have fh:∀{e:Env} {gg:Rows} {nx:Nat},(e 19=.int .i64 (IntKind.i64.wrap ((i:Int)+1)))->(e 8=.bool (decide ((gV s l S (i+1)).1.length≠S.1.length))/\qa s (gV s l S (i+1))/\QO ⟨g1,x1⟩ x1 c T O s l (gV s l S (i+1)) (e 7) gg nx)->∃m0,m0<(l.length)-i/\∃i:Nat,m0=(l.length)-i/\i<=(l.length)/\e 19=.int .i64 (i:Int)/\(e 8=.bool (decide ((gV s l S i).1.length≠S.1.length))/\qa s (gV s l S i)/\QO ⟨g1,x1⟩ x1 c T O s l (gV s l S i) (e 7) gg nx):=fun x1 x2=>⟨_,ae,i+1,rfl,ae,(by rw[x1,az ae]),x2⟩
   have fU:i<l.length:=ae
   have rf:=ta s l S fU
   have hx:=fQ fU
   have ht:=hA.2 _ hx
   have jb:=fR fU
   have Vp:=C7.rR hA
   have gp:(l.map ab).length=l.length:=by simp
   have YN:=C7.nO
   have Lg:=C7.len
   have LB:zf (aQ l i).aV=true:=hA.1.pt fU
   generalize gV s l S i=U at C7 Vp rf YN Lg AL b8 bS bR
   have hFU:∀q,0<=fe (s.cj.aq++U.1) q->eU s.aZ (fe (s.cj.aq++U.1) q)=true:=fun q hq=>by
    rw[bS.at_]at hq ⊢
    exact iF.KF Vp q hq
   (try((repeat(revert hN;revert N;apply Pn.out));refine wk (tw @b19 (tw @b3 (tw @b5 (tw @b6 (tw @Ns (tw @Nt (tw @hi (tw @jb (tw @gp @ab.eq_1))))))))) ?_;(repeat(refine Pn.mk ?_;intro N hN))))
   have zX:=bS.fit (aQ l i).aV (aQ l i).bp
   refine .inl ⟨_,K5 (bR.C3.C3.frame aU (by(have:=dj bR.C3.cv);simp only[go_sem, ↓reduceIte,Nat.reduceEqDiff,Nat.reduceAdd,Nat.reduceSub,Nat.reduceLeDiff,reduceCtorEq,this]) (by(have:=dj bR.C3.tv);simp only[go_sem, ↓reduceIte,Nat.reduceEqDiff,Nat.reduceAdd,Nat.reduceSub,Nat.reduceLeDiff,reduceCtorEq,this])) hP.set hFU (aQ l i).aV (aQ l i).bp ht,?_⟩
   refine hN _ _ ?_
   clear hN N
   cases hf:fW s U.2 (aQ l i).aV (aQ l i).bp
   ·rw[yP hf]at rf
    rw[hf]at zX
    (try((repeat(revert hN;revert N;apply Pn.out));refine wk (tw @b19 (tw @b3 (tw @b5 (tw @b6 (tw @Ns (tw @Nt (tw @zX @jb))))))) ?_;(repeat(refine Pn.mk ?_;intro N hN))))
    exact fh (sd (tw @b19 (tw @b3 (tw @b5 (tw @b6 (tw @Ns @Nt)))))) (by(try dsimp only);exact⟨by rw[rf];simp only[go_sem, ↓reduceIte,Nat.reduceEqDiff,Nat.reduceAdd,Nat.reduceSub,Nat.reduceLeDiff,reduceCtorEq,b8],by rw[rf];exact bS,by rw[rf];exact bR.frame (sd @Nat.zero_add) aU (fun y hy=>by
     have h9:=dj hy
     simp only[go_sem, ↓reduceIte,Nat.reduceEqDiff,Nat.reduceAdd,Nat.reduceSub,Nat.reduceLeDiff,reduceCtorEq,h9])⟩)
   ·rw[wM hf]at rf
    rw[hf]at zX
    (try((repeat(revert hN;revert N;apply Pn.out));refine wk (tw @b19 (tw @b3 (tw @b5 (tw @b6 (tw @Ns (tw @Nt (tw @zX @jb))))))) ?_;(repeat(refine Pn.mk ?_;intro N hN))))
    have h0:=bS.no (qq hA C7.sub hf)
    have D9:=bR.lo
    have cx:=bR.C3.cv
    have Tx:=bR.C3.tv
    have Ox:=bR.C3.ov
    refine .inr (aA _ _ _ _ _ (fun r σ2 hq=>?_) (Wo (σ:=⟨bK (bK st_b.get ⟨36008002,st_b.next+1⟩ ⟨true,3,[[.int .i64 0,.int .i64 0,.int .i64 0]]⟩) ⟨36008002,st_b.next+1⟩ ⟨true,3,[[.int .i64 (aQ l i).aV.fP,.int .i64 (aQ l i).aV.fE,.int .i64 (aQ l i).bp]]⟩,st_b.next+1+1+1+1⟩) (bR.C3.frame aU fun x hx=>by
     have h9:=dj hx
     simp only[go_sem, ↓reduceIte,Nat.reduceEqDiff,Nat.reduceAdd,Nat.reduceSub,Nat.reduceLeDiff,reduceCtorEq,h9]) hP.set hFU (aQ l i).aV LB (aQ l i).bp ht h0))
    obtain⟨g2,x2⟩:=σ2
    obtain⟨rfl,Lf,OD,Xn⟩:=hq
    (try dsimp only at Lf OD Xn)
    have kt:=Xn ⟨36008002,st_b.next+1⟩ aU (fun e=>by rw[<-e]at Tx;(try dsimp only at Tx);omega) (fun e=>by rw[<-e]at Ox;(try dsimp only at Ox);omega)
    simp only[go_sem, ↓reduceIte,Nat.reduceEqDiff,Nat.reduceAdd,Nat.reduceSub,Nat.reduceLeDiff,reduceCtorEq]at kt
    have wL:(⟨(aQ l i).aV,(aQ l i).bp⟩:aa)=aQ l i:=rfl
    rw[wL,List.append_assoc]at Lf
    have hd:decide ((U.1++[aQ l i]).length≠S.1.length)=true:=decide_eq_true (by rw[jJ];omega)
    have wJ:=jJ U.1 (aQ l i)
    have l6:=uq U.1 (aQ l i)
    have XT:=dj (i:=⟨36008002,st_b.next+1⟩) (n:=x2) aU
    have c2:=dj Lf.cv
    have T2:=dj Lf.tv
    have O2:=dj Lf.ov
    have Lp:∀y:Id,y.bt<x1->y≠T->y≠O->g2 y=st_b.get y:=fun y hy h1 h2=>by
     have h3:=Xn y ae h1 h2
     have h4:=dj (i:=y) (n:=st_b.next) ae
     simp only[go_sem, ↓reduceIte,Nat.reduceEqDiff,Nat.reduceAdd,Nat.reduceSub,Nat.reduceLeDiff,reduceCtorEq,h4]at h3
     exact h3
    refine hN _ _ ?_
    clear hN N
    rcases bR.u with⟨hU,b7⟩|⟨u,b7,bu,hu3,hu4,_⟩
    ·(try((repeat(revert hN;revert N;apply Pn.out));refine wk (tw @b19 (tw @b3 (tw @b5 (tw @b6 (tw @Ns (tw @Nt (tw @b7 (tw @kt @XT)))))))) ?_;(repeat(refine Pn.mk ?_;intro N hN))))
     exact fh (sd (tw @b19 (tw @b3 (tw @b5 (tw @b6 (tw @Ns @Nt)))))) (by(try dsimp only);exact⟨by rw[rf,hd]<;>simp only[go_sem, ↓reduceIte,Nat.reduceEqDiff,Nat.reduceAdd,Nat.reduceSub,Nat.reduceLeDiff,reduceCtorEq],by rw[rf];exact bS.put (qq hA C7.sub hf),by
      rw[rf]
      refine⟨Lf.three aU (sd @c2) (sd @T2) (sd @O2),.inr ⟨⟨36011003,x2+1⟩,by rw[wJ,hU];simp only[go_sem, ↓reduceIte,Nat.reduceEqDiff,Nat.reduceAdd,Nat.reduceSub,Nat.reduceLeDiff,reduceCtorEq]<;>rfl,by rw[l6,hU];simp only[go_sem, ↓reduceIte,Nat.reduceEqDiff,Nat.reduceAdd,Nat.reduceSub,Nat.reduceLeDiff,reduceCtorEq]<;>rfl,aU,aU,by(try dsimp only);rw[jJ];omega⟩,aU,fun y hy h1 h2 h3=>?_⟩
      have h4:=dj (i:=y) (n:=x2) ae
      have h5:=Lp y hy h1 h2
      have h6:=bR.fr y hy h1 h2 h3
      (try dsimp only at h6)
      simp only[go_sem, ↓reduceIte,Nat.reduceEqDiff,Nat.reduceAdd,Nat.reduceSub,Nat.reduceLeDiff,reduceCtorEq,h4,h5,h6]⟩)
    ·have ku:=Xn u aU (fun e=>by rw[e]at hu3;omega) (fun e=>by rw[e]at hu3;omega)
     have vu:=dj hu4
     simp only[go_sem, ↓reduceIte,Nat.reduceEqDiff,Nat.reduceAdd,Nat.reduceSub,Nat.reduceLeDiff,reduceCtorEq,vu,bu]at ku
     have Z4:=dj (i:=u) (n:=x2) ae
     have ut:=dp (a:=u) (b:=⟨36008002,st_b.next+1⟩) aU
     have ZJ:(U.1.map ab).length=U.1.length:=by simp
     have NL:U.1.length<=16777215:=ae
     have uc:=dp (a:=c) (b:=u) ae
     have uT:=dp (a:=T) (b:=u) ae
     have uO:=dp (a:=O) (b:=u) ae
     (try((repeat(revert hN;revert N;apply Pn.out));refine wk (tw @b19 (tw @b3 (tw @b5 (tw @b6 (tw @Ns (tw @Nt (tw @b7 (tw @kt (tw @XT (tw @ku (tw @Z4 (tw @ut (tw @ZJ @NL))))))))))))) ?_;(repeat(refine Pn.mk ?_;intro N hN))))
     exact fh (sd (tw @b19 (tw @b3 (tw @b5 (tw @b6 (tw @Ns @Nt)))))) (by(try dsimp only);exact⟨by rw[rf,hd]<;>simp only[go_sem, ↓reduceIte,Nat.reduceEqDiff,Nat.reduceAdd,Nat.reduceSub,Nat.reduceLeDiff,reduceCtorEq],by rw[rf];exact bS.put (qq hA C7.sub hf),by
      rw[rf]
      refine⟨Lf.three aU (sd (tw @c2 @uc)) (sd (tw @T2 @uT)) (sd (tw @O2 @uO)),.inr ⟨⟨36011003,x2+1⟩,by rw[wJ];simp only[go_sem, ↓reduceIte,Nat.reduceEqDiff,Nat.reduceAdd,Nat.reduceSub,Nat.reduceLeDiff,reduceCtorEq]<;>rfl,by rw[l6];simp only[go_sem, ↓reduceIte,Nat.reduceEqDiff,Nat.reduceAdd,Nat.reduceSub,Nat.reduceLeDiff,reduceCtorEq]<;>rfl,aU,aU,by(try dsimp only);rw[jJ];omega⟩,aU,fun y hy h1 h2 h3=>?_⟩
      have h4:=dj (i:=y) (n:=x2) ae
      have h5:=Lp y hy h1 h2
      have h6:=bR.fr y hy h1 h2 h3
      have h7:=dp (a:=y) (b:=u) ae
      (try dsimp only at h6)
      simp only[go_sem, ↓reduceIte,Nat.reduceEqDiff,Nat.reduceAdd,Nat.reduceSub,Nat.reduceLeDiff,reduceCtorEq,h4,h5,h6,h7]⟩)
  ·have l5:i=l.length:=ae
   subst l5
   rw[nR]at C7 b8 D7 bS bR
   have pr:=AY hI hA hm
   (try((repeat(revert hN;revert N;apply Pn.out));refine wk (tw @b19 (tw @b3 (tw @b5 (tw @b6 (tw @Ns (tw @Nt @hi)))))) ?_;(repeat(refine Pn.mk ?_;intro N hN))))
   by_cases he:(fG s l S).1.length=S.1.length
   ·refine⟨0,by show 0<m;omega,fG s l S,0,false,rfl,?_,fun h=>(by cases h),fun _=>(pr.1 he).symm.trans hF,C7,bS,bR.frame (sd @Nat.zero_add) aU fun x _=>rfl⟩
    simp only[go_sem, ↓reduceIte,Nat.reduceEqDiff,Nat.reduceAdd,Nat.reduceSub,Nat.reduceLeDiff,reduceCtorEq,b8,he]<;>simp
   ·obtain⟨m',rfl,Oj,Ce⟩:=pr.2 he
    refine⟨m',Nat.lt_succ_self _,fG s l S,m',true,rfl,?_,fun _=>⟨Oj.symm.trans hF,Ce⟩,fun h=>(by cases h),C7,bS,bR.frame (sd @Nat.zero_add) aU fun x _=>rfl⟩
    have hd:=decide_eq_true he
    simp only[go_sem, ↓reduceIte,Nat.reduceEqDiff,Nat.reduceAdd,Nat.reduceSub,Nat.reduceLeDiff,reduceCtorEq,b8]
    rw[hd]
def ki (l:List aa) (ps:List ar) (q:ar):List ar:=if zf q=true/\eO l q<0 then sb ps q else ps
def gh (l:List aa) (ps:List ar) (p:ar):Nat->List ar
 |0=>ps
 |d+1=>ki l (gh l ps p d) (dq p d)
def ft (l:List aa):Nat->List ar
 |0=>[]
 |i+1=>gh l (ft l i) (aQ l i).aV 4
def qH (l:List aa):List ar:=ft l l.length
theorem Cw {l:List aa} {ps:List ar} (h:yd ps) (q:ar):yd (ki l ps q):=by
 unfold ki;split
 ·exact Mu h q
 ·exact h
theorem tk {l:List aa} {ps:List ar} (h:yd ps) (p:ar):∀d,yd (gh l ps p d)
 |0=>h
 |d+1=>Cw (tk h p d) _
theorem y5 (l:List aa):∀i,yd (ft l i)
 |0=>List.Pairwise.nil
 |i+1=>tk (y5 l i) _ 4
theorem Cv (l:List aa) (ps:List ar) (q:ar):(ki l ps q).length<=ps.length+1:=by
 unfold ki;split
 ·exact Mt ps q
 ·omega
theorem tj (l:List aa) (ps:List ar) (p:ar):∀d,(gh l ps p d).length<=ps.length+d
 |0=>Nat.le_refl _
 |d+1=>by
  have:=tj l ps p d
  have:=Cv l (gh l ps p d) (dq p d)
  simp only[gh];omega
theorem tn (l:List aa):∀i,(ft l i).length<=i*4
 |0=>Nat.le_refl _
 |i+1=>by
  have:=tn l i
  have:=tj l (ft l i) (aQ l i).aV 4
  simp only[ft];omega
theorem yW (l:List aa) (ps:List ar) (p:ar) (x:ar):∀d,x∈gh l ps p d↔x∈ps∨∃k,k<d/\x=dq p (k:Nat)/\zf x=true/\eO l x<0
 |0=>⟨.inl,fun h=>h.elim id fun⟨_,h,_⟩=>absurd h (Nat.not_lt_zero _)⟩
 |d+1=>by
  simp only[gh,ki]
  have ih:=yW l ps p x d
  split
  ·rename_i h
   rw[L7,ih]
   constructor
   ·rintro(rfl|h1|⟨k,h1,h2⟩)
    ·exact .inr ⟨d,Nat.lt_succ_self _,rfl,h⟩
    ·exact .inl h1
    ·exact .inr ⟨k,ae,h2⟩
   ·rintro(h1|⟨k,h1,h2⟩)
    ·exact .inr (.inl h1)
    ·by_cases hk:k=d
     ·subst hk;exact .inl h2.1
     ·exact .inr (.inr ⟨k,ae,h2⟩)
  ·rename_i h
   rw[ih]
   constructor
   ·rintro(h1|⟨k,h1,h2⟩)
    ·exact .inl h1
    ·exact .inr ⟨k,ae,h2⟩
   ·rintro(h1|⟨k,h1,h2⟩)
    ·exact .inl h1
    ·by_cases hk:k=d
     ·subst hk;rw[h2.1]at h2;exact absurd h2.2 h
     ·exact .inr ⟨k,ae,h2⟩
def Hh (l:List aa) (x:ar):Prop:=zf x=true/\eO l x<0/\∃i d:Nat,i<l.length/\d<4/\x=dq (aQ l i).aV d
theorem yX (l:List aa) (x:ar):∀i,x∈ft l i↔∃j d:Nat,j<i/\d<4/\x=dq (aQ l j).aV d/\zf x=true/\eO l x<0
 |0=>⟨fun h=>(by cases h),fun⟨_,_,h,_⟩=>absurd h (Nat.not_lt_zero _)⟩
 |i+1=>by
  simp only[ft]
  rw[yW,yX l x i]
  constructor
  ·rintro(⟨j,d,h1,h2⟩|⟨d,h1,h2⟩)
   ·exact⟨j,d,ae,h2⟩
   ·exact⟨i,d,Nat.lt_succ_self _,h1,h2⟩
  ·rintro⟨j,d,h1,h2,h3⟩
   by_cases hj:j=i
   ·subst hj;exact .inr ⟨d,h2,h3⟩
   ·exact .inl ⟨j,d,ae,h2,h3⟩
theorem JD (l:List aa) (x:ar):x∈qH l↔Hh l x:=by
 unfold qH Hh
 rw[yX]
 exact⟨fun⟨j,d,h1,h2,h3,h4,h5⟩=>⟨h4,h5,j,d,h1,h2,h3⟩,fun⟨h4,h5,j,d,h1,h2,h3⟩=>⟨j,d,h1,h2,h3,h4,h5⟩⟩
theorem Jw (l:List aa) (hF:jz l) (σ:ax):Call Tryz.prog 85 [.dv [.sl (l.map ab)]] σ (UO σ (fun _=>True) (qH l)):=by
 refine ij fF rfl fun jc=>?_
 clear jc
 have hR:=hF.om
 have F8:=hF.nO
 (try((repeat(revert hN;revert N;apply Pn.out));refine wk @Nat.zero_add ?_;(repeat(refine Pn.mk ?_;intro N hN))))
 refine bz (fun n env st=>∃i:Nat,n=(l.length)-i/\i<=(l.length)/\env 4=.int .i64 (i:Int)/\(∃o:Id,env 3=.own o 0 (ft l i).length/\st.get o=some ⟨true,2,(ft l i).map ah⟩/\o.bt<st.next/\σ.next<=o.bt/\∀x:Id,x.bt<σ.next->st.get x=σ.get x)) (l.length) ⟨0,ae,ae,sl @Nat.zero_add,⟨⟨85001000,σ.next+1⟩,by simp only[go_sem, ↓reduceIte,Nat.reduceEqDiff,Nat.reduceAdd,Nat.reduceSub,Nat.reduceLeDiff,reduceCtorEq];rfl,by simp only[go_sem, ↓reduceIte,Nat.reduceEqDiff,Nat.reduceAdd,Nat.reduceSub,Nat.reduceLeDiff,reduceCtorEq];rfl,aU,aU,fun x hx=>by
  have:=dj (i:=x) (n:=σ.next+1) ae
  simp only[go_sem, ↓reduceIte,Nat.reduceEqDiff,Nat.reduceAdd,Nat.reduceSub,Nat.reduceLeDiff,reduceCtorEq,this]⟩⟩ ?_
 rintro n_a env_a st_a ⟨i,rfl,ale,a4,oh⟩ eJ
 have a0:=eJ 0 (by kernel_rfl)
 simp only[go_sem, ↓reduceIte,Nat.reduceEqDiff,Nat.reduceAdd,Nat.reduceSub,Nat.reduceLeDiff,reduceCtorEq]at a0
 clear eJ
 obtain⟨o,a3,ag,KE,P0,eJ⟩:=oh
 by_cases hi:(i:Int)<(l.length:Int)
 ·have dx:∀{e:Env} {gg:Rows} {nx:Nat},(e 4=.int .i64 (IntKind.i64.wrap ((i:Int)+1)))->(∃o:Id,e 3=.own o 0 (ft l (i+1)).length/\gg o=some ⟨true,2,(ft l (i+1)).map ah⟩/\o.bt<nx/\σ.next<=o.bt/\∀x:Id,x.bt<σ.next->gg x=σ.get x)->∃m0,m0<(l.length)-i/\∃i:Nat,m0=(l.length)-i/\i<=(l.length)/\e 4=.int .i64 (i:Int)/\(∃o:Id,e 3=.own o 0 (ft l i).length/\gg o=some ⟨true,2,(ft l i).map ah⟩/\o.bt<nx/\σ.next<=o.bt/\∀x:Id,x.bt<σ.next->gg x=σ.get x):=fun x1 x2=>⟨_,ae,i+1,rfl,ae,(by rw[x1,az ae]),x2⟩
  have fU:i<l.length:=ae
  (try((repeat(revert hN;revert N;apply Pn.out));refine wk (tw @a4 (tw @a0 (tw @a3 @hi))) ?_;(repeat(refine Pn.mk ?_;intro N hN))))
  refine bz (fun n env st=>∃d:Nat,n=(4)-d/\d<=(4)/\env 5=.int .i64 (d:Int)/\(∃o:Id,env 3=.own o 0 (gh l (ft l i) (aQ l i).aV d).length/\st.get o=some ⟨true,2,(gh l (ft l i) (aQ l i).aV d).map ah⟩/\o.bt<st.next/\σ.next<=o.bt/\∀x:Id,x.bt<σ.next->st.get x=σ.get x)) (4) ⟨0,ae,ae,sl (tw @a4 @a0),⟨o,by simp only[go_sem, ↓reduceIte,Nat.reduceEqDiff,Nat.reduceAdd,Nat.reduceSub,Nat.reduceLeDiff,reduceCtorEq,a3,gh],by simp only[go_sem, ↓reduceIte,Nat.reduceEqDiff,Nat.reduceAdd,Nat.reduceSub,Nat.reduceLeDiff,reduceCtorEq,ag,gh],aU,P0,fun x hx=>sd (eJ x hx)⟩⟩ ?_
  rintro n_b env_b st_b ⟨d,rfl,ble,b5,bI0⟩ eW
  have b0:=eW 0 (by kernel_rfl);have b4:=eW 4 (by kernel_rfl)
  simp only[go_sem, ↓reduceIte,Nat.reduceEqDiff,Nat.reduceAdd,Nat.reduceSub,Nat.reduceLeDiff,reduceCtorEq,a4,a0]at b0 b4
  clear eW
  obtain⟨ob,b3,bg,bov,P3,eW⟩:=bI0
  by_cases hd:(d:Int)<4
  ·have fh:∀{e:Env} {gg:Rows} {nx:Nat},(e 5=.int .i64 (IntKind.i64.wrap ((d:Int)+1)))->(∃o:Id,e 3=.own o 0 (gh l (ft l i) (aQ l i).aV (d+1)).length/\gg o=some ⟨true,2,(gh l (ft l i) (aQ l i).aV (d+1)).map ah⟩/\o.bt<nx/\σ.next<=o.bt/\∀x:Id,x.bt<σ.next->gg x=σ.get x)->∃m0,m0<(4)-d/\∃d:Nat,m0=(4)-d/\d<=(4)/\e 5=.int .i64 (d:Int)/\(∃o:Id,e 3=.own o 0 (gh l (ft l i) (aQ l i).aV d).length/\gg o=some ⟨true,2,(gh l (ft l i) (aQ l i).aV d).map ah⟩/\o.bt<nx/\σ.next<=o.bt/\∀x:Id,x.bt<σ.next->gg x=σ.get x):=fun x1 x2=>⟨_,ae,d+1,rfl,ae,(by rw[x1,az ae]),x2⟩
   have jb:=fR fU
   have Qk:=qM (hF.pt fU)
   have ev:=rl (aQ l i).aV d (jo ae) Qk.1 Qk.2
   have VV:=tb (dq (aQ l i).aV d)
   have lp:=dj bov
   have Ft:((gh l (ft l i) (aQ l i).aV d).map ah).length=(gh l (ft l i) (aQ l i).aV d).length:=by simp
   cases hp:zf (dq (aQ l i).aV d)
   ·rw[hp]at VV
    have pr:gh l (ft l i) (aQ l i).aV (d+1)=gh l (ft l i) (aQ l i).aV d:=by
     simp only[gh,ki];rw[if_neg fun h=>by rw[hp]at h;cases h.1]
    (repeat(first|((repeat(revert hN;revert N;apply Pn.out));refine wk (tw @b5 (tw @b0 (tw @b4 (tw @b3 (tw @bg (tw @hd (tw @jb (tw @lp (tw @ab.eq_1 @ah.eq_1))))))))) ?_;(repeat(refine Pn.mk ?_;intro N hN)))|((try apply Or.inl);refine⟨_,au.x (ev) (sd (tw @b5 (tw @b0 (tw @b4 (tw @b3 (tw @bg (tw @hd (tw @jb (tw @lp (tw @ab.eq_1 @ah.eq_1)))))))))),?_⟩;refine hN _ _ ?_;clear hN N)|((try apply Or.inl);refine⟨_,au.x (VV) (sd (tw @b5 (tw @b0 (tw @b4 (tw @b3 (tw @bg (tw @hd (tw @jb (tw @lp (tw @ab.eq_1 @ah.eq_1)))))))))),?_⟩;refine hN _ _ ?_;clear hN N)))
    exact fh (sd (tw @b5 (tw @b0 (tw @b4 @ah.eq_1)))) (by exact⟨ob,sd (tw @b3 @pr),sd (tw @bg (tw @lp @pr)),aU,P3,fun x hx=>by
     have h1:=dj (i:=x) (n:=st_b.next) ae
     have h2:=dj (i:=x) (n:=st_b.next+1) ae
     have h3:=eW x hx
     simp only[go_sem, ↓reduceIte,Nat.reduceEqDiff,Nat.reduceAdd,Nat.reduceSub,Nat.reduceLeDiff,reduceCtorEq,h1,h2,h3]⟩)
   ·rw[hp]at VV
    have C9:=oL l (dq (aQ l i).aV d) hR ae
    by_cases hx:eO l (dq (aQ l i).aV d)<0
    ·have pr:gh l (ft l i) (aQ l i).aV (d+1)=sb (gh l (ft l i) (aQ l i).aV d) (dq (aQ l i).aV d):=by
      simp only[gh,ki];rw[if_pos ⟨hp,hx⟩]
     have RP:=tj l (ft l i) (aQ l i).aV d
     have Uq:=tn l i
     (repeat(first|((repeat(revert hN;revert N;apply Pn.out));refine wk (tw @b5 (tw @b0 (tw @b4 (tw @b3 (tw @bg (tw @hd (tw @jb (tw @lp (tw @hx (tw @ab.eq_1 @ah.eq_1)))))))))) ?_;(repeat(refine Pn.mk ?_;intro N hN)))|((try apply Or.inl);refine⟨_,au.x (ev) (sd (tw @b5 (tw @b0 (tw @b4 (tw @b3 (tw @bg (tw @hd (tw @jb (tw @lp (tw @hx (tw @ab.eq_1 @ah.eq_1))))))))))),?_⟩;refine hN _ _ ?_;clear hN N)|((try apply Or.inl);refine⟨_,au.x (VV) (sd (tw @b5 (tw @b0 (tw @b4 (tw @b3 (tw @bg (tw @hd (tw @jb (tw @lp (tw @hx (tw @ab.eq_1 @ah.eq_1))))))))))),?_⟩;refine hN _ _ ?_;clear hN N)|((try apply Or.inl);refine⟨_,au.x (C9) (sd (tw @b5 (tw @b0 (tw @b4 (tw @b3 (tw @bg (tw @hd (tw @jb (tw @lp (tw @hx (tw @ab.eq_1 @ah.eq_1))))))))))),?_⟩;refine hN _ _ ?_;clear hN N)))
     refine .inr (aA _ _ _ _ _ (fun r σ1 hq=>?_) (Ac _ (tk (y5 l i) _ d) ae (dq (aQ l i).aV d) ob _ (sd (tw @bg @lp)) aU))
     obtain⟨g1,x1⟩:=σ1
     obtain⟨o1,rfl,q1,q2,q3,q4,q5⟩:=hq
     (try dsimp only at q1 q2 q3 q4 q5)
     refine hN _ _ ?_
     clear hN N
     (try((repeat(revert hN;revert N;apply Pn.out));refine wk (tw @b5 (tw @b0 @b4)) ?_;(repeat(refine Pn.mk ?_;intro N hN))))
     exact fh (sd (tw @b5 (tw @b0 (tw @b4 @ah.eq_1)))) (by exact⟨o1,sd @pr,sd (tw @q1 @pr),aU,by
      rcases q4 with h|h
      ·omega
      ·have:o1=ob:=by simpa using h
       rw[this];exact P3,fun x hx=>by
      have h1:=dj (i:=x) (n:=st_b.next) ae
      have h2:=dj (i:=x) (n:=st_b.next+1) ae
      have h3:=eW x hx
      have h4:(x=ob)=False:=eq_false fun h=>by rw[h]at hx;omega
      have h5:=q5 x ae h4
      simp only[go_sem, ↓reduceIte,Nat.reduceEqDiff,Nat.reduceAdd,Nat.reduceSub,Nat.reduceLeDiff,reduceCtorEq,h1,h2,h3,h5]⟩)
    ·have pr:gh l (ft l i) (aQ l i).aV (d+1)=gh l (ft l i) (aQ l i).aV d:=by
      simp only[gh,ki];rw[if_neg fun h=>hx h.2]
     (repeat(first|((repeat(revert hN;revert N;apply Pn.out));refine wk (tw @b5 (tw @b0 (tw @b4 (tw @b3 (tw @bg (tw @hd (tw @jb (tw @lp (tw @hx (tw @ab.eq_1 @ah.eq_1)))))))))) ?_;(repeat(refine Pn.mk ?_;intro N hN)))|((try apply Or.inl);refine⟨_,au.x (ev) (sd (tw @b5 (tw @b0 (tw @b4 (tw @b3 (tw @bg (tw @hd (tw @jb (tw @lp (tw @hx (tw @ab.eq_1 @ah.eq_1))))))))))),?_⟩;refine hN _ _ ?_;clear hN N)|((try apply Or.inl);refine⟨_,au.x (VV) (sd (tw @b5 (tw @b0 (tw @b4 (tw @b3 (tw @bg (tw @hd (tw @jb (tw @lp (tw @hx (tw @ab.eq_1 @ah.eq_1))))))))))),?_⟩;refine hN _ _ ?_;clear hN N)|((try apply Or.inl);refine⟨_,au.x (C9) (sd (tw @b5 (tw @b0 (tw @b4 (tw @b3 (tw @bg (tw @hd (tw @jb (tw @lp (tw @hx (tw @ab.eq_1 @ah.eq_1))))))))))),?_⟩;refine hN _ _ ?_;clear hN N)))
     exact fh (sd (tw @b5 (tw @b0 (tw @b4 @ah.eq_1)))) (by exact⟨ob,sd (tw @b3 @pr),sd (tw @bg (tw @lp @pr)),aU,P3,fun x hx=>by
      have h1:=dj (i:=x) (n:=st_b.next) ae
      have h2:=dj (i:=x) (n:=st_b.next+1) ae
      have h3:=eW x hx
      simp only[go_sem, ↓reduceIte,Nat.reduceEqDiff,Nat.reduceAdd,Nat.reduceSub,Nat.reduceLeDiff,reduceCtorEq,h1,h2,h3]⟩)
  ·have Nx:d=4:=ae
   rw[Nx]at b3 bg
   have hnu:gh l (ft l i) (aQ l i).aV 4=ft l (i+1):=rfl
   rw[hnu]at b3 bg
   (try((repeat(revert hN;revert N;apply Pn.out));refine wk (tw @b5 (tw @b0 (tw @b4 (tw @b3 (tw @bg @hd))))) ?_;(repeat(refine Pn.mk ?_;intro N hN))))
   exact dx (sd (tw @b5 (tw @b0 (tw @b4 @ah.eq_1)))) (by exact⟨ob,sd @b3,sd @bg,aU,P3,fun x hx=>sd (eW x hx)⟩)
 ·have l5:i=l.length:=ae
  (try((repeat(revert hN;revert N;apply Pn.out));refine wk (tw @a4 (tw @a0 (tw @a3 (tw @ag @hi)))) ?_;(repeat(refine Pn.mk ?_;intro N hN))))
  exact gN (.inl rfl) (vs:=[.own o 0 (ft l i).length]) (sd @a3) ⟨o,by rw[qH,<-l5];rfl,by rw[qH,<-l5];simp only[go_sem, ↓reduceIte,Nat.reduceEqDiff,Nat.reduceAdd,Nat.reduceSub,Nat.reduceLeDiff,reduceCtorEq,ag],aU,aU,.inl P0,fun x hx _=>sd (eJ x hx)⟩
structure Wr2 (g:Rows) (n:Nat) (A S C c T O:Id) (s:aw) (l:List aa):Prop where
 a:∃b,g A=some ⟨b,1,[[.sl (l.map ab)]]⟩
 sy:∃b,g S=some ⟨b,4,[aH s]⟩
 p:∃b,g C=some ⟨b,1,[[.ptr c 0 0]]⟩
 C3:Fo g n c T O s l
 av:A.bt<n
 sv:S.bt<n
 pv:C.bt<n
def wN (p:ar->Bool) (l:List ar):List ar:=l.filter fun x=> !p x
theorem Sc {p:ar->Bool} {l:List ar} {j:Nat} (hj:j<l.length):wN p (l.take (j+1))=wN p (l.take j)++if p l[j]=true then[]else[l[j]]:=by
 unfold wN
 rw[List.take_succ_eq_append_getElem hj,List.filter_append]
 congr 1
 cases h:p l[j]<;>simp[h]
theorem Sb {p:ar->Bool} {l:List ar} (h:∀b∈l,p b=false):wN p l=l:=by
 unfold wN
 rw[List.filter_eq_self]
 intro b hb
 rw[h b hb];rfl
structure DlP (p:ar->Bool) (bs:List ar) (j:Nat) (R:List ar):Prop where
 len:R.length=bs.length
 pre:R.take (wN p (bs.take j)).length=wN p (bs.take j)
 post:∀x,j<=x->R[x]? =bs[x]?
 lt:(wN p (bs.take j)).length<j
structure pe (n:Nat) (px:Nat->Option Nat) (L:Nat->Nat):Prop where
 top:∀k,k<n->px k=none->L k=k
 up:∀k j,k<n->px k=some j->j<k/\L j=L k
theorem pe.root {n:Nat} {px:Nat->Option Nat} {L:Nat->Nat} (h:pe n px L) (hL:kr L) {k:Nat} (hk:k<n) (hr:L k=k):px k=none:=by
 rcases hp:px k with _|j
 ·rfl
 ·obtain⟨h1,h2⟩:=h.up k j hk hp
  have:=hL.le j
  omega
theorem pe.start (n:Nat):pe n (fun _=>none) id:=⟨fun _ _ _=>rfl,fun _ _ _ h=>by cases h⟩
theorem pe.join {n:Nat} {px:Nat->Option Nat} {L:Nat->Nat} (h:pe n px L) (hL:kr L) (b:PB) (eM:min (L b.a) (L b.b)<max (L b.a) (L b.b)):pe n (fun k=>if k=max (L b.a) (L b.b)then some (min (L b.a) (L b.b))else px k) (fA L b):=by
 have ha:=hL.idem b.a
 have hb:=hL.idem b.b
 have Cf:L (min (L b.a) (L b.b))=min (L b.a) (L b.b):=by
  rcases Nat.le_total (L b.a) (L b.b)with h|h
  ·rw[Nat.min_eq_left h,ha]
  ·rw[Nat.min_eq_right h,hb]
 have Uu:L (max (L b.a) (L b.b))=max (L b.a) (L b.b):=by
  rcases Nat.le_total (L b.a) (L b.b)with h|h
  ·rw[Nat.max_eq_right h,hb]
  ·rw[Nat.max_eq_left h,ha]
 unfold fA
 generalize min (L b.a) (L b.b)=lo at *
 generalize max (L b.a) (L b.b)=hi at *
 refine⟨fun k hk hp=>?_,fun k j hk hp=>?_⟩
 ·by_cases ND:k=hi
  ·rw[if_pos ND]at hp;cases hp
  ·rw[if_neg ND]at hp
   have:=h.top k hk hp
   rw[if_neg ae];exact this
 ·by_cases ND:k=hi
  ·rw[if_pos ND]at hp
   cases hp
   subst ND
   exact⟨eM,by rw[if_neg ae,if_pos Uu,Cf]⟩
  ·rw[if_neg ND]at hp
   obtain⟨h1,h2⟩:=h.up k j hk hp
   exact⟨h1,by rw[h2]⟩
theorem Cm {L:Nat->Nat} {b:PB} (h:L b.a=L b.b):fA L b=L:=by
 funext k
 unfold fA
 rw[h,Nat.max_self,Nat.min_self]
 split
 ·rename_i h;exact h.symm
 ·rfl
def vn (G:Nat->Id) (px:Nat->Option Nat) (k:Nat):List AV:=[match px k with|none=>.iZ|some j=>.ptr (G j) 0 0,.int .i64 (k:Int)]
def w8 (g:Rows) (G:Nat->Id) (n:Nat) (px:Nat->Option Nat):Prop:=∀k,k<n->g (G k)=some ⟨true,2,[vn G px k]⟩
theorem w8.frame {g g':Rows} {G:Nat->Id} {n:Nat} {px:Nat->Option Nat} (h:w8 g G n px) (hf:∀k,k<n->g' (G k)=g (G k)):w8 g' G n px:=fun k hk=>(hf k hk).trans (h k hk)
theorem mQ {G:Nat->Id} {px:Nat->Option Nat} {k:Nat} (h:px k=none):vn G px k=[.iZ,.int .i64 (k:Int)]:=by rw[vn,h]
theorem wH {G:Nat->Id} {px:Nat->Option Nat} {k j:Nat} (h:px k=some j):vn G px k=[.ptr (G j) 0 0,.int .i64 (k:Int)]:=by rw[vn,h]
theorem BY (G:Nat->Id) (n:Nat) (px:Nat->Option Nat) (L:Nat->Nat) (h:pe n px L) (k:Nat) (hk:k<n) (σ:ax) (hG:w8 σ.get G n px):
  Call Tryz.prog 188 [.ptr (G k) 0 0] σ fun r σ'=>r=.ptr (G (L k)) 0 0/\σ'.get=σ.get/\σ.next<=σ'.next:=by
 refine ij fF rfl fun hl=>?_
 clear hl
 (try((repeat(revert hN;revert N;apply Pn.out));refine wk @Nat.zero_add ?_;(repeat(refine Pn.mk ?_;intro N hN))))
 refine bz (fun m env st=>∃j:Nat,m=j/\j<n/\env 0=.ptr (G j) 0 0/\L j=L k/\st.get=σ.get/\σ.next<=st.next) k ⟨k,rfl,hk,sd @Nat.zero_add,rfl,by(try dsimp only),aU⟩ ?_
 rintro m env_b st_b ⟨j,rfl,hj,b0,hLj,hg,hle⟩ eW
 clear eW
 have fI:=hG m hj
 rcases hp:px m with _|j
 ·rw[mQ hp]at fI
  (try((repeat(revert hN;revert N;apply Pn.out));refine wk (tw @b0 (tw @hg @fI)) ?_;(repeat(refine Pn.mk ?_;intro N hN))))
  exact gN (.inl rfl) (vs:=[.ptr (G m) 0 0]) (sd @Nat.zero_add) ⟨by rw[<-hLj,h.top m hj hp];rfl,by first|trivial|rfl|exact hg,aU⟩
 ·rw[wH hp]at fI
  obtain⟨h1,h2⟩:=h.up m j hj hp
  (try((repeat(revert hN;revert N;apply Pn.out));refine wk (tw @b0 (tw @hg @fI)) ?_;(repeat(refine Pn.mk ?_;intro N hN))))
  exact⟨j,h1,j,rfl,ae,sd @Nat.zero_add,ae,by first|trivial|rfl|exact hg,aU⟩
end Go.Proofs.YtiabgllilcfheaaGreat.V

namespace Go.Proofs.YtiabgllilcfheaaGreat.V
open Go.RowKit
attribute [local irreducible] er wpOps fY Call
attribute [local go_sem] aF fC eR fN fK du upd cw K.av cQ AV.cells AV.cell rowOf rowsOf part ld rowAt bK cq dH dX gG bP dd eh fJ fa dw ea db da dM dP bV bd cU bU cW cV dV eb dZ cR bY dc dY bQ aD cY cF gF bD cL bW aY dn bj dI AV.undef bH bJ dQ dW dL dK cK ef eo cz ee ec cX cZ List.getD_cons_zero List.getD_cons_succ List.getD_nil List.all_cons List.all_nil Bool.and_true Bool.true_and Bool.and_self Bool.not_true Bool.not_false Option.map_some Option.map_none Option.bind_some Option.bind_none List.length_cons List.length_nil List.take_succ_cons List.take_zero List.take_nil List.drop_succ_cons List.drop_zero List.drop_nil List.head?_cons List.map_cons List.map_nil List.getElem?_cons_zero List.getElem?_cons_succ List.cons_append List.nil_append List.append_nil List.length_map List.set_cons_zero List.set_cons_succ eq_self Int.toNat_natCast Int.natCast_nonneg and_self true_and and_true decide_true decide_false Bool.false_eq_true Nat.zero_add Nat.add_zero List.contains_cons List.contains_nil Bool.or_false Bool.false_or beq_self_eq_true ne_eq not_true_eq_false not_false_eq_true Id.mk.injEq false_and and_false Nat.le_refl List.length_append beq_true beq_false Bool.not_eq_eq_eq_not or_false false_or eu ai aj aP bh bZ cm aW bx aK bf cP bI
abbrev mI:MK:=⟨false,[.tI]⟩
def vI (l:List (Nat×Nat)):List (List AV):=l.map fun p=>[.int .i64 (p.1:Int),.int .i64 (p.2:Int)]
theorem El (r:Nat):∀(l:List (Nat×Nat)) (i:Nat),((∀p∈l,p.1≠r)->iy mI [.int .i64 (r:Int)] (vI l) i=some none)/\(∀j v,l[j]? =some (r,v)->(∀x y,x<j->l[x]? =some y->y.1≠r)->iy mI [.int .i64 (r:Int)] (vI l) i=some (some (i+j)))
 |[],i=>⟨fun _=>rfl,fun j v h=>by simp at h⟩
 |p::l,i=>by
  obtain⟨h1,h2⟩:=El r l (i+1)
  by_cases h:p.1=r
  ·refine⟨fun hp=>absurd h (hp p (by simp)),fun j v hj hf=>?_⟩
   have Xr:j=0:=by
    rcases Nat.eq_zero_or_pos j with h0|h0
    ·exact h0
    ·exact absurd h (hf 0 p h0 (by simp))
   subst Xr
   simp[vI,iy,fa,fJ,MK.ks,h]
  ·have hd:¬((r:Int)=(p.1:Int)):=ae
   have nr:¬r=p.1:=fun he=>h he.symm
   have step:iy mI [.int .i64 (r:Int)] (vI (p::l)) i=iy mI [.int .i64 (r:Int)] (vI l) (i+1):=by
    unfold vI
    simp[iy,MK.ks,fa,fJ,hd,nr,h]
   rw[step]
   refine⟨fun hp=>h1 fun q hq=>hp q (by simp[hq]),fun j v hj hf=>?_⟩
   cases j with
   |zero=>simp at hj;rw[hj]at h;exact absurd rfl h
   |succ j=>
    rw[h2 j v (by simpa using hj) fun x y hx hy=>hf (x+1) y ae (by simpa using hy)]
    congr 2;omega
theorem AW {r:Nat} {l:List (Nat×Nat)}:((∀p∈l,p.1≠r)->gW mI (.int .i64 (r:Int)) (vI l)=some none)/\(∀j v,l[j]? =some (r,v)->(∀x y,x<j->l[x]? =some y->y.1≠r)->gW mI (.int .i64 (r:Int)) (vI l)=some (some j)):=by
 have e:gW mI (.int .i64 (r:Int)) (vI l)=iy mI [.int .i64 (r:Int)] (vI l) 0:=by
  unfold gW
  rw[if_pos ⟨rfl,rfl,rfl⟩];rfl
 obtain⟨h1,h2⟩:=El r l 0
 rw[e]
 exact⟨h1,fun j v hj hf=>by rw[h2 j v hj hf,Nat.zero_add]⟩
def l7 (k:Nat) (L:Nat->Nat):List (List AV):=vI (leads k L).zipIdx
theorem Gv {k:Nat} {L:Nat->Nat} (h:L k=k):l7 (k+1) L=l7 k L++[[.int .i64 (k:Int),.int .i64 ((leads k L).length:Int)]]:=by
 unfold l7
 rw[iY,if_pos h,List.zipIdx_append]
 simp[vI]
theorem Gu {k:Nat} {L:Nat->Nat} (h:L k≠k):l7 (k+1) L=l7 k L:=by
 unfold l7
 rw[iY,if_neg h,List.append_nil]
theorem Jy {k:Nat} {L:Nat->Nat} (h:L k=k):gW mI (.int .i64 (k:Int)) (l7 k L)=some none:=by
 refine AW.1 fun p hp=>?_
 have:=List.fst_mem_of_mem_zipIdx hp
 have:=(A9.1 this).1
 omega
theorem A8 {n:Nat} {L:Nat->Nat} {x y:Nat} (hx:x<(leads n L).length) (hy:y<(leads n L).length) (h:(leads n L)[x]=(leads n L)[y]):x=y:=by
 have hp:=List.pairwise_iff_getElem.1 (wQ n L)
 rcases Nat.lt_trichotomy x y with eM|he|eM
 ·exact absurd h (hp x y hx hy eM)
 ·exact he
 ·exact absurd h.symm (hp y x hy hx eM)
theorem A7 {k:Nat} {L:Nat->Nat} (hL:kr L) (h:L k≠k):gW mI (.int .i64 (L k:Int)) (l7 k L)=some (some (de L k))/\(l7 k L)[de L k]? =some [.int .i64 (L k:Int),.int .i64 (de L k:Int)]/\de L k<(leads k L).length:=by
 have eM:L k<k:=Nat.lt_of_le_of_ne (hL.le k) h
 have hn:de L (L k)=de L k:=by rw[de,hL.idem,de]
 have hg:=rm hL eM
 rw[hn,hL.idem]at hg
 have hl:de L k<(leads k L).length:=(List.getElem?_eq_some_iff.1 hg).1
 have hz:(leads k L).zipIdx[de L k]? =some (L k,de L k):=by simp[List.getElem?_zipIdx,hg]
 refine⟨AW.2 _ _ hz fun x y hx hy=>?_,by unfold l7 vI;rw[List.getElem?_map,hz];rfl,hl⟩
 intro he
 rw[List.getElem?_zipIdx]at hy
 have XI:x<(leads k L).length:=ae
 rw[List.getElem?_eq_getElem XI]at hy
 simp at hy
 rw[<-hy]at he
 simp at he
 have e2:(leads k L)[de L k]=L k:=(List.getElem?_eq_some_iff.1 hg).2
 have:=A8 XI hl (he.trans e2.symm)
 omega
def kH (k:Nat) (L:Nat->Nat):List (List Nat):=(leads k L).map (members k L)
theorem sV (k:Nat) (L:Nat->Nat):(kH k L).length=(leads k L).length:=by simp[kH]
theorem F1 {k:Nat} {L:Nat->Nat} (hL:kr L) (h:L k=k):kH (k+1) L=kH k L++[[k]]:=by
 unfold kH
 rw[iY,if_pos h,List.map_append,List.map_cons,List.map_nil,kh,if_pos h,oM hL (Nat.le_refl k),List.nil_append]
 congr 1
 refine List.map_congr_left fun r hr=>?_
 have:=(A9.1 hr).1
 rw[kh,if_neg ae,List.append_nil]
theorem F2 {k:Nat} {L:Nat->Nat} (hL:kr L) (h:L k≠k):(kH k L)[de L k]? =some (members k L (L k))/\kH (k+1) L=(kH k L).set (de L k) (members k L (L k)++[k]):=by
 obtain⟨_,_,hl⟩:=A7 hL h
 have eM:L k<k:=Nat.lt_of_le_of_ne (hL.le k) h
 have hg:=rm hL eM
 have hn:de L (L k)=de L k:=by rw[de,hL.idem,de]
 rw[hn,hL.idem]at hg
 refine⟨by unfold kH;rw[List.getElem?_map,hg];rfl,?_⟩
 unfold kH
 rw[iY,if_neg h,List.append_nil]
 refine List.ext_getElem? fun i=>?_
 rw[List.getElem?_set,List.getElem?_map,List.length_map]
 by_cases hi:de L k=i
 ·subst hi
  rw[if_pos rfl,if_pos hl,hg,Option.map_some,kh,if_pos rfl]
 ·rw[if_neg hi,List.getElem?_map]
  rcases hr:(leads k L)[i]? with _|r
  ·rfl
  ·rw[Option.map_some,Option.map_some,kh,if_neg,List.append_nil]
   rintro rfl
   obtain⟨l5,he⟩:=List.getElem?_eq_some_iff.1 hr
   have e2:(leads k L)[de L k]=L k:=(List.getElem?_eq_some_iff.1 hg).2
   exact hi (A8 hl l5 (e2.trans he.symm))
theorem EK (k:Nat) (L:Nat->Nat) (r:Nat):(members k L r).length<=k:=by
 have:=List.length_filter_le (fun x=>L x==r) (List.range k)
 simpa[members]using this
def Nq (g:Rows) (o:Id) (L:List (List Nat)) (nx:Nat):Prop:=∃rows ids,g o=some ⟨true,1,rows⟩/\fX T9 g rows L ids/\ids.Nodup/\(∀i∈ids,i.site=173026008/\i.bt<nx)/\o.site=173025002/\o.bt<nx
theorem Oi {g':Rows} {v v' Ae j:Nat} (h1:g' ⟨173025002,v⟩=some ⟨true,1,[[.own ⟨173026008,v'⟩ 0 1]]⟩) (h2:g' ⟨173026008,v'⟩=some ⟨true,1,[eN j]⟩) (hv:v<Ae) (pM:v'<Ae):Nq g' ⟨173025002,v⟩ [[j]] Ae:=
 ⟨_,[⟨173026008,v'⟩],h1,.one ⟨_,rfl,h2,rfl⟩,by simp,fun i hi=>by rw[List.mem_singleton.1 hi];exact⟨rfl,pM⟩,rfl,hv⟩
theorem Nq.new {g:Rows} {o:Id} {L:List (List Nat)} {nx:Nat} (h:Nq g o L nx) (j:Nat):∃rows,g o=some ⟨true,1,rows⟩/\rows.length=L.length/\∀(g':Rows) (v v' Ae:Nat),nx<=v'->v<Ae->v'<Ae->g' ⟨173025002,v⟩=some ⟨true,1,rows++[[.own ⟨173026008,v'⟩ 0 1]]⟩->g' ⟨173026008,v'⟩=some ⟨true,1,[eN j]⟩->(∀i:Id,i.site=173026008->i.bt<nx->g' i=g i)->Nq g' ⟨173025002,v⟩ (L++[[j]]) Ae:=by
 obtain⟨rows,ids,h1,h2,h3,h4,h5,h6⟩:=h
 refine⟨rows,h1,h2.len,fun g' v v' Ae hv AQ R8 q1 q2 q3=>⟨_,ids++[⟨173026008,v'⟩],q1,(h2.frame Sf fun i hi=>q3 i (h4 i hi).1 (h4 i hi).2).app (.one ⟨_,rfl,q2,rfl⟩),?_,fun i hi=>?_,rfl,AQ⟩⟩
 ·refine List.nodup_append.2 ⟨h3,by simp,fun a ha b hb qz=>?_⟩
  rw[List.mem_singleton.1 hb]at qz
  have:=(h4 a ha).2
  rw[qz]at this
  simp only at this
  omega
 ·rcases List.mem_append.1 hi with hi|hi
  ·have:=h4 i hi;exact⟨this.1,ae⟩
  ·rw[List.mem_singleton.1 hi];exact⟨rfl,R8⟩
theorem Nq.add {g:Rows} {o:Id} {L:List (List Nat)} {nx k:Nat} {La:List Nat} (h:Nq g o L nx) (hk:L[k]? =some La) (j:Nat):∃rows id,g o=some ⟨true,1,rows⟩/\rows.length=L.length/\rows[k]? =some [.own id 0 La.length]/\g id=some ⟨true,1,La.map eN⟩/\id.site=173026008/\id.bt<nx/\∀(g':Rows) (v' Ae:Nat),nx<=v'->v'<Ae->g' o=some ⟨true,1,rows.set k [.own ⟨173026008,v'⟩ 0 (La.length+1)]⟩->g' ⟨173026008,v'⟩=some ⟨true,1,La.map eN++[[.int .i64 (j:Int)]]⟩->(∀i:Id,i.site=173026008->i.bt<nx->(i=id)=False->g' i=g i)->Nq g' o (L.set k (La++[j])) Ae:=by
 obtain⟨rows,ids,h1,h2,h3,h4,h5,h6⟩:=h
 have mU:k<L.length:=(List.getElem?_eq_some_iff.1 hk).1
 have YJ:=lY hk mU
 obtain⟨cs,ic,eD,Uh,VK,yJ⟩:=h2.Wq Sf h3 k mU
 rw[YJ]at Uh
 obtain⟨id,rfl,q1,rfl⟩:=Uh
 have hid:=h4 id (VK id (by simp))
 refine⟨rows,id,h1,h2.len,eD,q1,hid.1,hid.2,fun g' v' Ae hv AQ r1 r2 r3=>?_⟩
 obtain⟨Gl,s1,s2,s3⟩:=yJ g' [.own ⟨173026008,v'⟩ 0 (La.length+1)] (La++[j]) [⟨173026008,v'⟩] ⟨_,by simp,by rw[r2];simp[eN],rfl⟩ (fun i hi Xy=>r3 i (h4 i hi).1 (h4 i hi).2 (by
  simp only[eq_iff_iff,iff_false];rintro rfl;exact Xy (by simp))) (by simp) fun i hi hc=>by
   rw[List.mem_singleton.1 hi]at hc
   have:=(h4 _ hc).2
   simp only at this
   omega
 refine⟨_,Gl,r1,s1,s2,fun i hi=>?_,h5,ae⟩
 rcases s3 i hi with h|h
 ·rw[List.mem_singleton.1 h];exact⟨rfl,AQ⟩
 ·have:=h4 i h;exact⟨this.1,ae⟩
def nD (G:Nat->Id) (n k:Nat):List (List AV):=(List.range n).map fun i=>[if i<k then .ptr (G i) 0 0 else .iZ]
theorem n9 (G:Nat->Id) (n k:Nat):(nD G n k).length=n:=by simp[nD]
theorem J1 (G:Nat->Id) (n:Nat):List.replicate n [AV.iZ]=nD G n 0:=by
 refine List.ext_getElem? fun i=>?_
 by_cases h:i<n
 ·rw[List.getElem?_replicate,if_pos h];simp[nD,h]
 ·rw[List.getElem?_eq_none (by simp;omega),List.getElem?_eq_none (by rw[n9];omega)]
theorem zA {G:Nat->Id} {n i:Nat} (h:i<n):(nD G n n)[i]? =some [.ptr (G i) 0 0]:=by simp[nD,h]
theorem MN {G:Nat->Id} {n k:Nat} (h:k<n):(nD G n k).set k [.ptr (G k) 0 0]=nD G n (k+1):=by
 refine List.ext_getElem? fun i=>?_
 rw[List.getElem?_set,n9]
 by_cases hi:k=i
 ·subst hi;rw[if_pos rfl,if_pos h];simp[nD,h]
 ·rw[if_neg hi]
  by_cases fU:i<n
  ·simp only[nD,List.getElem?_map,List.getElem?_range fU,Option.map_some]
   by_cases AM:i<k
   ·rw[if_pos AM,if_pos ae]
   ·rw[if_neg AM,if_neg ae]
  ·rw[List.getElem?_eq_none (by rw[n9];omega),List.getElem?_eq_none (by rw[n9];omega)]
end Go.Proofs.YtiabgllilcfheaaGreat.V

namespace Go.Proofs.YtiabgllilcfheaaGreat.V
open Go.RowKit
attribute [local irreducible] er wpOps fY Call
attribute [local go_sem] aF fC eR fN fK du upd cw K.av cQ AV.cells AV.cell rowOf rowsOf part ld rowAt bK cq dH dX gG bP dd eh fJ fa dw ea db da dM dP bV bd cU bU cW cV dV eb dZ cR bY dc dY bQ aD cY cF gF bD cL bW aY dn bj dI AV.undef bH bJ dQ dW dL dK cK ef eo cz ee ec cX cZ List.getD_cons_zero List.getD_cons_succ List.getD_nil List.all_cons List.all_nil Bool.and_true Bool.true_and Bool.and_self Bool.not_true Bool.not_false Option.map_some Option.map_none Option.bind_some Option.bind_none List.length_cons List.length_nil List.take_succ_cons List.take_zero List.take_nil List.drop_succ_cons List.drop_zero List.drop_nil List.head?_cons List.map_cons List.map_nil List.getElem?_cons_zero List.getElem?_cons_succ List.cons_append List.nil_append List.append_nil List.length_map List.set_cons_zero List.set_cons_succ Nat.reduceMul eq_self Int.toNat_natCast Int.natCast_nonneg and_self true_and and_true decide_true decide_false Bool.false_eq_true Nat.zero_add Nat.add_zero List.contains_cons List.contains_nil Bool.or_false Bool.false_or beq_self_eq_true Nat.reduceBEq ne_eq not_true_eq_false not_false_eq_true Id.mk.injEq false_and and_false Nat.reduceLT Int.reduceLE Int.reduceLT Int.reduceToNat Int.reduceNeg Int.reduceAdd Nat.le_refl List.length_append beq_true beq_false Bool.not_eq_eq_eq_not or_false false_or eu ai aj aP bh bZ cm aW bx aK bf cP bI
theorem je {o:Id} {a:Nat} (h:o.site=a) {b v:Nat} (qz:(a==b)=false):(o=⟨b,v⟩)=False/\((⟨b,v⟩:Id)=o)=False:=by
 have h1:=CJ h (v:=v) qz
 refine⟨h1,?_⟩
 simp only[eq_iff_iff,iff_false]at h1 ⊢
 exact fun h=>h1 h.symm
theorem yE (cnt:Nat) (vG:1<=cnt) (hn:cnt<=1048576) (bs:List PB) (hb:∀b∈bs,b.a<cnt/\b.b<cnt) (iK:bs.length<=1048576):au Tryz.prog 173 [.int .i64 cnt,.sl (bs.map aI)] (.sl ((gJ cnt (fc bs)).map C4)):=by
 intro n0
 refine xX Q4 rfl fun hl=>?_
 simp only[Ta,Tb,Td]
 try simp only[q]
 clear hl
 have kB:(0:Int)<=(cnt:Int):=ae
 have sr:(cnt:Int)<=((16777216:Nat):Int):=ae
 obtain⟨G,hG⟩:∃G:Nat->Id,G=fun k=>⟨173005004,n0+3+4*k+2⟩:=⟨_,rfl⟩
 have W7:∀k,(G k).site=173005004:=fun k=>by rw[hG]
 have YF:∀k,(G k).bt=n0+3+4*k+2:=fun k=>by rw[hG]
 have YC:∀i j,i≠j->(G i=G j)=False:=fun i j h=>by
  simp only[eq_iff_iff,iff_false]
  intro he
  have h1:=YF i
  rw[he,YF j]at h1
  omega
 have Ol:∀i s v,(173005004==s)=false->(G i=⟨s,v⟩)=False:=fun i s v h=>CJ (W7 i) h
 have hz:=J1 G cnt
 (try((repeat(revert hN;revert N;apply Pn.out));refine wk (tw @kB (tw @sr (tw @Int.le_refl @hz))) ?_;(repeat(refine Pn.mk ?_;intro N hN))))
 refine bz (fun n env st=>∃k:Nat,n=(cnt)-k/\k<=(cnt)/\env 21=.int .i64 (k:Int)/\st.get ⟨173001001,n0+1⟩=some ⟨true,1,nD G cnt k⟩/\(st.next=n0+3+4*k/\∀j:Nat,j<k->st.get (G j)=some ⟨true,2,[[.iZ,.int .i64 (j:Int)]]⟩)) (cnt) ⟨0,ae,ae,sl @hz,sl @hz,⟨rfl,fun j hj=>ae⟩⟩ ?_
 rintro n_a env_a st_a ⟨k,rfl,ale,a21,ag0,oh⟩ eJ
 have a0:=eJ 0 (by kernel_rfl);have a1:=eJ 1 (by kernel_rfl);have a5:=eJ 5 (by kernel_rfl);have QV:=eJ 19 (by kernel_rfl);have a20:=eJ 20 (by kernel_rfl)
 simp only[go_sem, ↓reduceIte,Nat.reduceEqDiff,Nat.reduceAdd,Nat.reduceSub,Nat.reduceLeDiff,reduceCtorEq,hz]at a0 a1 a5 QV a20
 clear eJ
 obtain⟨oh,pR⟩:=oh
 by_cases hk:(k:Int)<(cnt:Int)
 ·have dx:∀{e:Env} {gg:Rows} {nx:Nat},(e 21=.int .i64 (IntKind.i64.wrap ((k:Int)+1)))->(gg ⟨173001001,n0+1⟩=some ⟨true,1,nD G cnt (k+1)⟩)->(nx=n0+3+4*(k+1)/\∀j:Nat,j<(k+1)->gg (G j)=some ⟨true,2,[[.iZ,.int .i64 (j:Int)]]⟩)->∃m0,m0<(cnt)-k/\∃k:Nat,m0=(cnt)-k/\k<=(cnt)/\e 21=.int .i64 (k:Int)/\gg ⟨173001001,n0+1⟩=some ⟨true,1,nD G cnt k⟩/\(nx=n0+3+4*k/\∀j:Nat,j<k->gg (G j)=some ⟨true,2,[[.iZ,.int .i64 (j:Int)]]⟩):=fun x1 x2 x3=>⟨_,ae,k+1,rfl,ae,(by rw[x1,az ae]),x2,x3⟩
  have iR:k<cnt:=ae
  have tl:=n9 G cnt k
  have fj:=MN (G:=G) iR
  have gq:(nD G cnt k)[k]? =some [.iZ]:=by simp[nD,iR]
  have W5:(⟨173005004,st_a.next+1+1⟩:Id)=G k:=by rw[hG,oh]
  have hGf:∀j,j<k->(G j=G k)=False:=fun j hj=>YC j k ae
  have Ca:∀j,(G j=(⟨173001001,n0+1⟩:Id))=False:=fun j=>Ol j _ _ (by decide)
  have F4:∀j,((⟨173001001,n0+1⟩:Id)=G j)=False:=fun j=>by
   have:=Ca j
   simp only[eq_iff_iff,iff_false]at this ⊢
   exact fun h=>this h.symm
  (try((repeat(revert hN;revert N;apply Pn.out));refine wk (tw @a21 (tw @ag0 (tw @a0 (tw @a1 (tw @a5 (tw @QV (tw @a20 (tw @hk (tw @tl (tw @W5 (tw @Ca (tw @F4 (tw @fj @gq))))))))))))) ?_;(repeat(refine Pn.mk ?_;intro N hN))))
  refine dx ?_ ?_ (by
   refine⟨by(try dsimp only)<;>omega,fun j hj=>?_⟩
   by_cases AN:j=k
   ·subst AN;simp only[go_sem, ↓reduceIte,Nat.reduceEqDiff,Nat.reduceAdd,Nat.reduceSub,Nat.reduceLeDiff,reduceCtorEq,W5,Ca,F4]
   ·have hold:=pR j ae
    have iN:=hGf j ae
    simp only[go_sem, ↓reduceIte,Nat.reduceEqDiff,Nat.reduceAdd,Nat.reduceSub,Nat.reduceLeDiff,reduceCtorEq,W5,Ca,F4,iN,hold])
  all_goals simp only[go_sem, ↓reduceIte,Nat.reduceEqDiff,Nat.reduceAdd,Nat.reduceSub,Nat.reduceLeDiff,reduceCtorEq,a21,ag0,a0,a1,a5,QV,a20,W5,Ca,F4,fj]
 have mU:cnt=k:=ae
 subst mU
 (try((repeat(revert hN;revert N;apply Pn.out));refine wk (tw @a21 (tw @ag0 (tw @a0 (tw @a1 (tw @a5 (tw @QV (tw @a20 @hk))))))) ?_;(repeat(refine Pn.mk ?_;intro N hN))))
 refine bz (fun n env st=>∃i:Nat,n=(bs.length)-i/\i<=(bs.length)/\env 33=.int .i64 (i:Int)/\st.get ⟨173001001,n0+1⟩=some ⟨true,1,nD G cnt cnt⟩/\(n0+3+4*cnt<=st.next)/\(∃px,pe cnt px (fc (bs.take i))/\w8 st.get G cnt px)) (bs.length) ⟨0,ae,ae,sl (tw @a21 (tw @ag0 (tw @a0 (tw @a1 (tw @a5 (tw @QV @a20)))))),sl (tw @a21 (tw @ag0 (tw @a0 (tw @a1 (tw @a5 (tw @QV @a20)))))),aU,⟨fun _=>none,pe.start cnt,pR⟩⟩ ?_
 rintro n_b env_b st_b ⟨i,rfl,ble,xb,bg0,bI0,bI1⟩ eW
 have b0:=eW 0 (by kernel_rfl);have b1:=eW 1 (by kernel_rfl);have b5:=eW 5 (by kernel_rfl);have As:=eW 31 (by kernel_rfl);have wj:=eW 32 (by kernel_rfl)
 simp only[go_sem, ↓reduceIte,Nat.reduceEqDiff,Nat.reduceAdd,Nat.reduceSub,Nat.reduceLeDiff,reduceCtorEq,a21,ag0,a0,a1,a5,QV,a20]at b0 b1 b5 As wj
 clear eW
 obtain⟨px,NH,W6⟩:=bI1
 have tl:=n9 G cnt cnt
 have Vl:∀j v,(G j=(⟨173009002,v⟩:Id))=False:=fun j v=>Ol j _ v (by decide)
 have Ca:∀j v,(G j=(⟨173001001,v⟩:Id))=False:=fun j v=>Ol j _ v (by decide)
 have F4:∀j v,((⟨173001001,v⟩:Id)=G j)=False:=fun j v=>by
  have:=Ca j v
  simp only[eq_iff_iff,iff_false]at this ⊢
  exact fun h=>this h.symm
 have hGn:∀j,j<cnt->(G j).bt<st_b.next:=fun j hj=>by rw[YF];omega
 by_cases hi:(i:Int)<(bs.length:Int)
 ·have fh:∀{e:Env} {gg:Rows} {nx:Nat},(e 33=.int .i64 (IntKind.i64.wrap ((i:Int)+1)))->(gg ⟨173001001,n0+1⟩=some ⟨true,1,nD G cnt cnt⟩)->(n0+3+4*cnt<=nx)->(∃px,pe cnt px (fc (bs.take (i+1)))/\w8 gg G cnt px)->∃m0,m0<(bs.length)-i/\∃i:Nat,m0=(bs.length)-i/\i<=(bs.length)/\e 33=.int .i64 (i:Int)/\gg ⟨173001001,n0+1⟩=some ⟨true,1,nD G cnt cnt⟩/\(n0+3+4*cnt<=nx)/\(∃px,pe cnt px (fc (bs.take i))/\w8 gg G cnt px):=fun x1 x2 x3 x4=>⟨_,ae,i+1,rfl,ae,(by rw[x1,az ae]),x2,x3,x4⟩
  have fU:i<bs.length:=ae
  have jb:(bs.map aI)[i]? =some (aI bs[i]):=by simp[fU]
  have I3:=hb _ (List.getElem_mem fU)
  have nE:bs.take (i+1)=bs.take i++[bs[i]]:=List.take_succ_eq_append_getElem fU
  have mW:fc (bs.take (i+1))=fA (fc (bs.take i)) bs[i]:=by rw[nE,yS]
  have hL:=wP (bs.take i)
  generalize fc (bs.take i)=L at *
  generalize bs[i]=b at *
  have gA:=zA (G:=G) I3.1
  have gB:=zA (G:=G) I3.2
  have iO:(b.a:Int)<(cnt:Int):=ae
  have gK:(b.b:Int)<(cnt:Int):=ae
  (try((repeat(revert hN;revert N;apply Pn.out));refine wk (tw @xb (tw @bg0 (tw @b0 (tw @b1 (tw @b5 (tw @As (tw @wj (tw @hi (tw @jb (tw @aI.eq_1 (tw @gA (tw @gB (tw @iO (tw @gK @tl)))))))))))))) ?_;(repeat(refine Pn.mk ?_;intro N hN))))
  refine lJ (fun e s=>e 0=.int .i64 cnt/\e 1=.sl (bs.map aI)/\e 5=.own ⟨173001001,n0+1⟩ 0 cnt/\e 31=.sl (bs.map aI)/\e 32=.int .i64 bs.length/\e 33=.int .i64 i/\e 9=.ptr (G (L b.a)) 0 0/\e 10=.ptr (G (L b.b)) 0 0/\(∀j:Id,j.bt<st_b.next->s.get j=st_b.get j)/\st_b.next<=s.next) ?_ ?_
  ·rintro e1 s1 ⟨m0,m1,m5,m31,m32,m33,m9,m10,mf,mn⟩
   refine hN _ _ ?_
   clear hN N
   have mG:w8 s1.get G cnt px:=W6.frame fun k hk=>mf _ (hGn k hk)
   have mt:=(mf ⟨173001001,n0+1⟩ aU).trans bg0
   have Zd:L b.a<cnt:=Nat.lt_of_le_of_lt (hL.le _) I3.1
   have VM:L b.b<cnt:=Nat.lt_of_le_of_lt (hL.le _) I3.2
   have ra:=mG _ Zd
   have rb:=mG _ VM
   rw[mQ (NH.root hL Zd (hL.idem _))]at ra
   rw[mQ (NH.root hL VM (hL.idem _))]at rb
   have put:∀(g':Rows) (lo hi:Nat),hi<cnt->g' (G hi)=some ⟨true,2,[[.ptr (G lo) 0 0,.int .i64 (hi:Int)]]⟩->(∀k,k≠hi->k<cnt->g' (G k)=s1.get (G k))->w8 g' G cnt (fun k=>if k=hi then some lo else px k):=fun g' lo hi _ h1 h2 k hk=>by
    by_cases ND:k=hi
    ·subst ND;rw[h1,wH (j:=lo) (if_pos rfl)]
    ·rw[h2 k ND hk,mG k hk]
     unfold vn
     simp only[if_neg ND]
   rcases Nat.lt_trichotomy (L b.a) (L b.b)with eM|heq|eM
   ·have RQ:(L b.a:Int)<(L b.b:Int):=ae
    have hj:=NH.join hL b ae
    rw[Nat.max_eq_right ae,Nat.min_eq_left ae,<-mW]at hj
    (try((repeat(revert hN;revert N;apply Pn.out));refine wk (tw @m0 (tw @m1 (tw @m5 (tw @m31 (tw @m32 (tw @m33 (tw @m9 (tw @m10 (tw @ra (tw @rb @RQ)))))))))) ?_;(repeat(refine Pn.mk ?_;intro N hN))))
    refine fh ?_ ?_ aU (⟨_,hj,put _ _ _ VM (sd @Nat.zero_add) (fun k hk _=>by
     have iN:=YC k _ hk
     simp only[go_sem, ↓reduceIte,Nat.reduceEqDiff,Nat.reduceAdd,Nat.reduceSub,Nat.reduceLeDiff,reduceCtorEq,iN])⟩)
    all_goals simp only[go_sem, ↓reduceIte,Nat.reduceEqDiff,Nat.reduceAdd,Nat.reduceSub,Nat.reduceLeDiff,reduceCtorEq,m0,m1,m5,m31,m32,m33,mt,Ca,F4]
   ·have vG:¬(L b.a:Int)<(L b.b:Int):=ae
    have OD:¬(L b.b:Int)<(L b.a:Int):=ae
    have Je:=Cm heq
    rw[Je]at mW
    (try((repeat(revert hN;revert N;apply Pn.out));refine wk (tw @m0 (tw @m1 (tw @m5 (tw @m31 (tw @m32 (tw @m33 (tw @m9 (tw @m10 (tw @ra (tw @rb (tw @vG @OD))))))))))) ?_;(repeat(refine Pn.mk ?_;intro N hN))))
    refine fh ?_ ?_ aU (⟨_,mW▸NH,mG.frame fun k hk=>rfl⟩)
    all_goals simp only[go_sem, ↓reduceIte,Nat.reduceEqDiff,Nat.reduceAdd,Nat.reduceSub,Nat.reduceLeDiff,reduceCtorEq,m0,m1,m5,m31,m32,m33,mt]
   ·have RQ:(L b.b:Int)<(L b.a:Int):=ae
    have vG:¬(L b.a:Int)<(L b.b:Int):=ae
    have hj:=NH.join hL b ae
    rw[Nat.max_eq_left ae,Nat.min_eq_right ae,<-mW]at hj
    (try((repeat(revert hN;revert N;apply Pn.out));refine wk (tw @m0 (tw @m1 (tw @m5 (tw @m31 (tw @m32 (tw @m33 (tw @m9 (tw @m10 (tw @ra (tw @rb (tw @RQ @vG))))))))))) ?_;(repeat(refine Pn.mk ?_;intro N hN))))
    refine fh ?_ ?_ aU (⟨_,hj,put _ _ _ Zd (sd @Nat.zero_add) (fun k hk _=>by
     have iN:=YC k _ hk
     simp only[go_sem, ↓reduceIte,Nat.reduceEqDiff,Nat.reduceAdd,Nat.reduceSub,Nat.reduceLeDiff,reduceCtorEq,iN])⟩)
    all_goals simp only[go_sem, ↓reduceIte,Nat.reduceEqDiff,Nat.reduceAdd,Nat.reduceSub,Nat.reduceLeDiff,reduceCtorEq,m0,m1,m5,m31,m32,m33,mt,Ca,F4]
  ·intro N hN
   refine dS ?_ ?_<;>(try((repeat(revert hN;revert N;apply Pn.out));refine wk (tw @xb (tw @bg0 (tw @b0 (tw @b1 (tw @b5 (tw @As (tw @wj (tw @hi (tw @jb (tw @aI.eq_1 (tw @gA (tw @gB (tw @iO (tw @gK @tl)))))))))))))) ?_;(repeat(refine Pn.mk ?_;intro N hN))))<;>(try refine dS ?_ ?_)<;>(try((repeat(revert hN;revert N;apply Pn.out));refine wk (tw @xb (tw @bg0 (tw @b0 (tw @b1 (tw @b5 (tw @As (tw @wj (tw @hi (tw @jb (tw @aI.eq_1 (tw @gA (tw @gB (tw @iO (tw @gK @tl)))))))))))))) ?_;(repeat(refine Pn.mk ?_;intro N hN))))<;>(try refine dS ?_ ?_)<;>(try((repeat(revert hN;revert N;apply Pn.out));refine wk (tw @xb (tw @bg0 (tw @b0 (tw @b1 (tw @b5 (tw @As (tw @wj (tw @hi (tw @jb (tw @aI.eq_1 (tw @gA (tw @gB (tw @iO (tw @gK @tl)))))))))))))) ?_;(repeat(refine Pn.mk ?_;intro N hN))))
   all_goals
    refine .inr (aA _ _ _ _ _ (fun r σ1 hq=>?_) (BY G cnt px L NH b.a I3.1 _ (W6.frame fun k hk=>sd @Vl)))
    obtain⟨g1,x1⟩:=σ1
    obtain⟨rfl,Ga,I9⟩:=hq
    (try dsimp only at Ga I9)
    subst Ga
    refine hN _ _ ?_
    clear hN N
    (try((repeat(revert hN;revert N;apply Pn.out));refine wk (tw @xb (tw @bg0 (tw @b0 (tw @b1 (tw @b5 (tw @As (tw @wj (tw @hi (tw @jb (tw @aI.eq_1 (tw @gA (tw @gB (tw @iO (tw @gK @tl)))))))))))))) ?_;(repeat(refine Pn.mk ?_;intro N hN))))
    refine .inr (aA _ _ _ _ _ (fun r σ1 hq=>?_) (BY G cnt px L NH b.b I3.2 _ (W6.frame fun k hk=>sd @Vl)))
    obtain⟨g1,x2⟩:=σ1
    obtain⟨rfl,Ga,nu⟩:=hq
    (try dsimp only at Ga nu)
    subst Ga
    refine hN _ _ ?_
    clear hN N
    (try((repeat(revert hN;revert N;apply Pn.out));refine wk (tw @xb (tw @bg0 (tw @b0 (tw @b1 (tw @b5 (tw @As (tw @wj (tw @hi (tw @jb (tw @aI.eq_1 (tw @gA (tw @gB (tw @iO (tw @gK @tl)))))))))))))) ?_;(repeat(refine Pn.mk ?_;intro N hN))))
    exact⟨sd (tw @xb (tw @bg0 (tw @b0 (tw @b1 (tw @b5 (tw @As @wj)))))),sd (tw @xb (tw @bg0 (tw @b0 (tw @b1 (tw @b5 (tw @As @wj)))))),sd (tw @xb (tw @bg0 (tw @b0 (tw @b1 (tw @b5 (tw @As @wj)))))),sd (tw @xb (tw @bg0 (tw @b0 (tw @b1 (tw @b5 (tw @As @wj)))))),sd (tw @xb (tw @bg0 (tw @b0 (tw @b1 (tw @b5 (tw @As @wj)))))),sd (tw @xb (tw @bg0 (tw @b0 (tw @b1 (tw @b5 (tw @As @wj)))))),sd (tw @xb (tw @bg0 (tw @b0 (tw @b1 (tw @b5 (tw @As @wj)))))),sd (tw @xb (tw @bg0 (tw @b0 (tw @b1 (tw @b5 (tw @As @wj)))))),fun j hj=>by
     have hv:=dj hj
     simp only[go_sem, ↓reduceIte,Nat.reduceEqDiff,Nat.reduceAdd,Nat.reduceSub,Nat.reduceLeDiff,reduceCtorEq,hv],aU⟩
 have l5:i=bs.length:=ae
 subst l5
 rw[List.take_length]at NH
 have hL:=wP bs
 generalize fc bs=L at *
 (try((repeat(revert hN;revert N;apply Pn.out));refine wk (tw @xb (tw @bg0 (tw @b0 (tw @b1 (tw @b5 (tw @As (tw @wj (tw @hi @tl)))))))) ?_;(repeat(refine Pn.mk ?_;intro N hN))))
 have l0:l7 0 L=[]:=rfl
 have oS:(none:Option Nat).isSome=false:=rfl
 have oT:∀a:Nat,(some a).isSome=true:=fun _=>rfl
 refine bz (fun n env st=>∃x:Nat,n=(cnt)-x/\x<=(cnt)/\env 81=.int .i64 (x:Int)/\st.get ⟨173001001,n0+1⟩=some ⟨true,1,nD G cnt cnt⟩/\st.get ⟨173017000,st_b.next+1+1⟩=some ⟨true,mI.pU,l7 x L⟩/\(st_b.next+3<=st.next/\w8 st.get G cnt px)/\((x=0/\env 11=.ck)∨∃o:Id,env 11=.own o 0 (leads x L).length/\Nq st.get o (kH x L) st.next)) (cnt) ⟨0,ae,ae,sl (tw @xb (tw @bg0 (tw @b0 (tw @b1 (tw @b5 (tw @As (tw @wj @l0))))))),sl (tw @xb (tw @bg0 (tw @b0 (tw @b1 (tw @b5 (tw @As (tw @wj @l0))))))),sl (tw @xb (tw @bg0 (tw @b0 (tw @b1 (tw @b5 (tw @As (tw @wj @l0))))))),⟨aU,W6.frame fun k hk=>by(have iN:=Ol k 173017000 (st_b.next+1+1) (by decide));simp only[go_sem, ↓reduceIte,Nat.reduceEqDiff,Nat.reduceAdd,Nat.reduceSub,Nat.reduceLeDiff,reduceCtorEq,iN]⟩,.inl ⟨rfl,sd @Nat.zero_add⟩⟩ ?_
 rintro n_c env_c st_c ⟨x,rfl,cle,c81,cg0,cg1,cI0,cI1⟩ iV
 have qi:=iV 12 (by kernel_rfl);have N3:=iV 79 (by kernel_rfl);have N4:=iV 80 (by kernel_rfl)
 simp only[go_sem, ↓reduceIte,Nat.reduceEqDiff,Nat.reduceAdd,Nat.reduceSub,Nat.reduceLeDiff,reduceCtorEq,xb,bg0,b0,b1,b5,As,wj,l0]at qi N3 N4
 clear iV
 obtain⟨pr,UY⟩:=cI0
 have Ry:∀j v,(G j=(⟨173017000,v⟩:Id))=False:=fun j v=>Ol j _ v (by decide)
 have Ru:∀j v,(G j=(⟨173025002,v⟩:Id))=False:=fun j v=>Ol j _ v (by decide)
 have Rw:∀j v,(G j=(⟨173025001,v⟩:Id))=False:=fun j v=>Ol j _ v (by decide)
 have Rx:∀j v,(G j=(⟨173026007,v⟩:Id))=False:=fun j v=>Ol j _ v (by decide)
 have Rv:∀j v,(G j=(⟨173026008,v⟩:Id))=False:=fun j v=>Ol j _ v (by decide)
 by_cases hx:(x:Int)<(cnt:Int)
 ·have gQ:∀{e:Env} {gg:Rows} {nx:Nat},(e 81=.int .i64 (IntKind.i64.wrap ((x:Int)+1)))->(gg ⟨173001001,n0+1⟩=some ⟨true,1,nD G cnt cnt⟩)->(gg ⟨173017000,st_b.next+1+1⟩=some ⟨true,mI.pU,l7 (x+1) L⟩)->(st_b.next+3<=nx/\w8 gg G cnt px)->(((x+1)=0/\e 11=.ck)∨∃o:Id,e 11=.own o 0 (leads (x+1) L).length/\Nq gg o (kH (x+1) L) nx)->∃m0,m0<(cnt)-x/\∃x:Nat,m0=(cnt)-x/\x<=(cnt)/\e 81=.int .i64 (x:Int)/\gg ⟨173001001,n0+1⟩=some ⟨true,1,nD G cnt cnt⟩/\gg ⟨173017000,st_b.next+1+1⟩=some ⟨true,mI.pU,l7 x L⟩/\(st_b.next+3<=nx/\w8 gg G cnt px)/\((x=0/\e 11=.ck)∨∃o:Id,e 11=.own o 0 (leads x L).length/\Nq gg o (kH x L) nx):=fun x1 x2 x3 x4 x5=>⟨_,ae,x+1,rfl,ae,(by rw[x1,az ae]),x2,x3,x4,x5⟩
  have UE:x<cnt:=ae
  have gX:=zA (G:=G) UE
  have hlx:L x<cnt:=Nat.lt_of_le_of_lt (hL.le _) UE
  have ra:=UY _ hlx
  rw[mQ (NH.root hL hlx (hL.idem _))]at ra
  have gp:=kK x L
  (try((repeat(revert hN;revert N;apply Pn.out));refine wk (tw @c81 (tw @cg0 (tw @cg1 (tw @qi (tw @N3 (tw @N4 (tw @hx (tw @gX @tl)))))))) ?_;(repeat(refine Pn.mk ?_;intro N hN))))
  refine .inr (aA _ _ _ _ _ (fun r σ1 hq=>?_) (BY G cnt px L NH x UE _ (UY.frame fun k hk=>sd @Nat.zero_add)))
  obtain⟨g1,x1⟩:=σ1
  obtain⟨rfl,Ga,I9⟩:=hq
  (try dsimp only at Ga I9)
  subst Ga
  refine hN _ _ ?_
  clear hN N
  by_cases hr:L x=x
  ·rw[hr]at ra ⊢
   have mE:=Jy hr
   have Xv:(leads (x+1) L).length=(leads x L).length+1:=by rw[iY,if_pos hr];simp
   have UA:=Gv hr
   have Xq:=F1 hL hr
   rcases cI1 with⟨rfl,pG⟩|⟨o,pG,cS⟩
   ·have ZE:l7 1 L=[[.int .i64 ((0:Nat):Int),.int .i64 ((0:Nat):Int)]]:=UA
    (try((repeat(revert hN;revert N;apply Pn.out));refine wk (tw @c81 (tw @cg0 (tw @cg1 (tw @qi (tw @N3 (tw @N4 (tw @pG (tw @ra (tw @mE (tw @l0 (tw @oS (tw @oT (tw @Bool.not_false @Bool.not_true))))))))))))) ?_;(repeat(refine Pn.mk ?_;intro N hN))))
    refine gQ ?_ ?_ ?_ (by(try dsimp only);exact⟨ae,UY.frame fun k hk=>sd (tw @Ry (tw @Ru (tw @Rv (tw @Rw @Rx))))⟩) (.inr ⟨⟨173025002,x1+1+1+1+1⟩,by simp only[go_sem, ↓reduceIte,Nat.reduceEqDiff,Nat.reduceAdd,Nat.reduceSub,Nat.reduceLeDiff,reduceCtorEq,Xv];rfl,by rw[Xq];exact Oi (v':=x1+1+1+1+1+1) (sd @Nat.zero_add) (sd @eN.eq_1) aU aU⟩)
    all_goals simp only[go_sem, ↓reduceIte,Nat.reduceEqDiff,Nat.reduceAdd,Nat.reduceSub,Nat.reduceLeDiff,reduceCtorEq,c81,cg0,cg1,qi,N3,N4,ZE]
   ·obtain⟨rows,ub,xK,lG⟩:=cS.new x
    rw[sV]at xK
    have zZ:o.site=173025002:=by obtain⟨_,_,_,_,_,_,h,_⟩:=cS;exact h
    have xJ:o.bt<x1:=by obtain⟨_,_,_,_,_,_,_,h⟩:=cS;omega
    have s8:=dj xJ
    have VQ:=je (o:=o) zZ (b:=173017000) (v:=st_b.next+1+1) (by decide)
    have Uw:=je (o:=o) zZ (b:=173001001) (v:=n0+1) (by decide)
    have Rz:∀k,(G k=o)=False:=fun k=>by simp only[eq_iff_iff,iff_false];intro h;have h1:=W7 k;rw[h,zZ]at h1;cases h1
    have uN:(rows++[[AV.ck]])[(leads x L).length]? =some [.ck]:=by rw[<-xK];simp
    have yK:∀a:List AV,(rows++[[AV.ck]]).set (leads x L).length a=rows++[a]:=fun a=>by rw[<-xK];simp
    have e1:(leads x L).length+1<=16777216:=ae
    have e2:((leads x L).length:Int)<(((leads x L).length+1:Nat):Int):=ae
    (try((repeat(revert hN;revert N;apply Pn.out));refine wk (tw @c81 (tw @cg0 (tw @cg1 (tw @qi (tw @N3 (tw @N4 (tw @pG (tw @ra (tw @mE (tw @ub (tw @xK (tw @s8 (tw @VQ (tw @uN (tw @yK (tw @e1 (tw @e2 (tw @oS (tw @oT (tw @Bool.not_false @Bool.not_true)))))))))))))))))))) ?_;(repeat(refine Pn.mk ?_;intro N hN))))
    refine gQ ?_ ?_ ?_ (by(try dsimp only);exact⟨ae,UY.frame fun k hk=>sd (tw @Ry (tw @Ru (tw @Rv (tw @Rw (tw @Rx @Rz)))))⟩) (.inr ⟨⟨173025002,x1+1+1+1+1⟩,sd @Xv,by rw[Xq];exact lG _ _ (x1+1+1+1+1+1) _ ae aU aU (sd @yK) (sd @eN.eq_1) (fun j hj hv=>by
     have q1:=dj (i:=j) (n:=x1) ae
     have q2:=je hj (b:=173017000) (v:=st_b.next+1+1) (by decide)
     have q3:(j=o)=False:=by simp only[eq_iff_iff,iff_false];intro h;rw[h,zZ]at hj;cases hj
     simp only[go_sem, ↓reduceIte,Nat.reduceEqDiff,Nat.reduceAdd,Nat.reduceSub,Nat.reduceLeDiff,reduceCtorEq,q1,q2,q3])⟩)
    all_goals simp only[go_sem, ↓reduceIte,Nat.reduceEqDiff,Nat.reduceAdd,Nat.reduceSub,Nat.reduceLeDiff,reduceCtorEq,c81,cg0,cg1,qi,N3,N4,UA,s8,VQ,Uw]
  ·obtain⟨mE,LG,eM⟩:=A7 hL hr
   obtain⟨Ny,Xq⟩:=F2 hL hr
   have Xv:(leads (x+1) L).length=(leads x L).length:=by rw[iY,if_neg hr];simp
   have Je:=Gu hr
   rcases cI1 with⟨rfl,pG⟩|⟨o,pG,cS⟩
   ·exact absurd (Nat.le_zero.1 (hL.le 0)) hr
   ·obtain⟨rows,id,ub,xK,hrk,hid,Ls,hidv,YP⟩:=cS.add Ny x
    rw[sV]at xK
    have zZ:o.site=173025002:=by obtain⟨_,_,_,_,_,_,h,_⟩:=cS;exact h
    have xJ:o.bt<x1:=by obtain⟨_,_,_,_,_,_,_,h⟩:=cS;omega
    have s8:=dj xJ
    have AQ:=dj (i:=id) (n:=x1) ae
    have jb:(de L x:Int)<((leads x L).length:Int):=ae
    have Uu:=EK x L (L x)
    have hma:((members x L (L x)).map eN).length=(members x L (L x)).length:=by simp
    have e1:(members x L (L x)).length+1<=16777216:=ae
    have hoi:(o=id)=False:=by simp only[eq_iff_iff,iff_false];rintro rfl;rw[Ls]at zZ;cases zZ
    have hio:(id=o)=False:=by simp only[eq_iff_iff,iff_false];rintro rfl;rw[Ls]at zZ;cases zZ
    have VQ:=je (o:=o) zZ (b:=173017000) (v:=st_b.next+1+1) (by decide)
    have Uw:=je (o:=o) zZ (b:=173001001) (v:=n0+1) (by decide)
    have hiM:=je (o:=id) Ls (b:=173017000) (v:=st_b.next+1+1) (by decide)
    have hiT:=je (o:=id) Ls (b:=173001001) (v:=n0+1) (by decide)
    have Rz:∀k,(G k=o)=False:=fun k=>by simp only[eq_iff_iff,iff_false];intro h;have h1:=W7 k;rw[h,zZ]at h1;cases h1
    have YE:∀k,(G k=id)=False:=fun k=>by simp only[eq_iff_iff,iff_false];intro h;have h1:=W7 k;rw[h,Ls]at h1;cases h1
    (try((repeat(revert hN;revert N;apply Pn.out));refine wk (tw @c81 (tw @cg0 (tw @cg1 (tw @qi (tw @N3 (tw @N4 (tw @pG (tw @ra (tw @mE (tw @LG (tw @ub (tw @xK (tw @hrk (tw @hid (tw @s8 (tw @AQ (tw @jb (tw @hma (tw @e1 (tw @hoi (tw @hio (tw @VQ (tw @Uw (tw @hiM (tw @hiT (tw @oS (tw @oT (tw @Bool.not_false @Bool.not_true)))))))))))))))))))))))))))) ?_;(repeat(refine Pn.mk ?_;intro N hN))))
    refine gQ ?_ ?_ ?_ (by(try dsimp only);exact⟨ae,UY.frame fun k hk=>sd (tw @Ry (tw @Ru (tw @Rv (tw @Rw (tw @Rx (tw @Rz @YE))))))⟩) (.inr ⟨o,sd (tw @Xv @pG),by rw[Xq];exact YP _ (x1+1+1) _ ae aU (sd @Nat.zero_add) (sd (tw @s8 (tw @AQ (tw @hoi @hio)))) (fun j hj hv ns=>by
     have q1:=dj (i:=j) (n:=x1) ae
     have q2:=je hj (b:=173017000) (v:=st_b.next+1+1) (by decide)
     have q3:(j=o)=False:=by simp only[eq_iff_iff,iff_false];intro h;rw[h,zZ]at hj;cases hj
     simp only[go_sem, ↓reduceIte,Nat.reduceEqDiff,Nat.reduceAdd,Nat.reduceSub,Nat.reduceLeDiff,reduceCtorEq,q1,q2,q3,ns])⟩)
    all_goals simp only[go_sem, ↓reduceIte,Nat.reduceEqDiff,Nat.reduceAdd,Nat.reduceSub,Nat.reduceLeDiff,reduceCtorEq,c81,cg0,cg1,qi,N3,N4,Je,s8,AQ,VQ,Uw,hiM,hiT]
 have ZO:x=cnt:=ae
 rcases cI1 with⟨h0,_⟩|⟨o,pG,rows,ids,ub,hR,_,_,_,_⟩
 ·omega
 have xK:=hR.len
 rw[sV]at xK
 (try((repeat(revert hN;revert N;apply Pn.out));refine wk (tw @c81 (tw @cg0 (tw @cg1 (tw @qi (tw @N3 (tw @N4 (tw @hx (tw @pG @ub)))))))) ?_;(repeat(refine Pn.mk ?_;intro N hN))))
 refine zp (.inl rfl) (by simp only[go_sem, ↓reduceIte,Nat.reduceEqDiff,Nat.reduceAdd,Nat.reduceSub,Nat.reduceLeDiff,reduceCtorEq];rfl) ?_
 rw[tX ub ae (rows':=(gJ cnt L).map C4) (by
  rw[List.drop_zero,List.take_of_length_le ae]
  rw[ZO]at hR;exact L1 3 hR)]
theorem M0 (b:PB) (t:Int):au Tryz.prog 176 [.agg (aI b),.dv [.int .i64 t]] (.bool (decide (b.s<t))):=by
 refine au.body fF rfl fun hl n0=>?_
 clear hl
 (try((repeat(revert hN;revert N;apply Pn.out));refine wk @aI.eq_1 ?_;(repeat(refine Pn.mk ?_;intro N hN))))
 exact cu (b:=decide (b.s<t)) (.inl rfl) (sd @Nat.zero_add) rfl
theorem AU (bs:List PB) (t:Int) (hl:bs.length<=1048576):au Tryz.prog 189 [.sl (bs.map aI),.fn 176 [.dv [.int .i64 t]]] (.int .i64 (jx (fun b:PB=>decide (b.s<t)) bs)):=
 qD K0 (show BP Tryz.prog 189=some (s9 189 3 true) by kernel_rfl) bs hl 176 _ _ (fun x _=>M0 x t) fun g=>by simp only[ai,aj,aK,Option.map_some]
theorem KU (bs:List PB) (hp:0<bs.length) (hl:bs.length<=1048576) (σ:ax):
  Call Tryz.prog 175 [.sl (bs.map aI)] σ fun r σ'=>∃o:Id,r=.own o 0 bs.length/\σ'.get o=some ⟨true,3,bs.map aI⟩/\σ.next<=o.bt/\o.bt<σ'.next/\∀i:Id,i.bt<σ.next->σ'.get i=σ.get i:=by
 refine ij fF rfl fun hl=>?_
 clear hl
 have hz:=all_map (l:=bs) QK
 obtain⟨b,r,rfl⟩:∃b r,bs=b::r:=by
  cases bs with
  |nil=>simp at hp
  |cons b r=>exact⟨b,r,rfl⟩
 have gp:(List.map aI (b::r)).length=(b::r).length:=by simp
 have e1:r.length<=16777215:=by simp at hl;omega
 rw[List.map_cons]at hz gp ⊢
 (try((repeat(revert hN;revert N;apply Pn.out));refine wk (tw @hz (tw @gp @e1)) ?_;(repeat(refine Pn.mk ?_;intro N hN))))
 refine gN (.inl rfl) (vs:=[.own ⟨175003002,σ.next+1+1⟩ 0 (b::r).length]) (by simp only[gS,jD,go_sem, ↓reduceIte,Nat.reduceEqDiff,Nat.reduceAdd,Nat.reduceSub,Nat.reduceLeDiff,reduceCtorEq,List.length_cons]) ⟨⟨175003002,σ.next+1+1⟩,rfl,sd @Nat.zero_add,aU,aU,fun i hi=>?_⟩
 have hv:=dj hi
 simp only[go_sem, ↓reduceIte,Nat.reduceEqDiff,Nat.reduceAdd,Nat.reduceSub,Nat.reduceLeDiff,reduceCtorEq,hv]
theorem qQ {t:Int} {bs:List PB} {j:Nat} (hj:j<bs.length):bw t (bs.take (j+1))=bw t (bs.take j)++if decide (bs[j].s<t)=true then[]else[bs[j]]:=by
 rw[w6 t bs j hj]
 congr 1
 by_cases h:bs[j].s<t
 ·rw[if_neg ae,if_pos (decide_eq_true h)]
 ·rw[if_pos ae,if_neg (by simp only[decide_eq_true_eq];exact h)]
theorem w5 {t:Int} {bs:List PB} (h:∀b∈bs,¬b.s<t):bw t bs=bs:=by
 unfold bw
 rw[List.filter_eq_self]
 intro b hb
 have:=h b hb
 exact decide_eq_true ae
structure w7 (t:Int) (bs:List PB) (j:Nat) (R:List PB):Prop where
 len:R.length=bs.length
 pre:R.take (bw t (bs.take j)).length=bw t (bs.take j)
 post:∀x,j<=x->R[x]? =bs[x]?
 lt:(bw t (bs.take j)).length<j
theorem w7.start {t:Int} {bs:List PB} {i:Nat} (hi:i<bs.length) (hw:bs[i].s<t) (hp:∀x (h:x<i),¬bs[x].s<t):w7 t bs (i+1) bs/\(bw t (bs.take (i+1))).length=i:=by
 have h1:bw t (bs.take i)=bs.take i:=w5 fun b hb=>by
  obtain⟨x,hx,rfl⟩:=List.getElem_of_mem hb
  rw[List.length_take]at hx
  rw[List.getElem_take]
  exact hp x ae
 have h2:bw t (bs.take (i+1))=bs.take i:=by rw[qQ hi,if_pos (decide_eq_true hw),List.append_nil,h1]
 have h3:(bs.take i).length=i:=by rw[List.length_take];omega
 exact⟨⟨rfl,by rw[h2,h3],fun _ _=>rfl,by rw[h2,h3];omega⟩,by rw[h2,h3]⟩
theorem w7.SJ {t:Int} {bs R:List PB} {j:Nat} (h:w7 t bs j R) (hj:j<bs.length) (hw:bs[j].s<t):w7 t bs (j+1) R/\(bw t (bs.take (j+1))).length=(bw t (bs.take j)).length:=by
 have h2:bw t (bs.take (j+1))=bw t (bs.take j):=by rw[qQ hj,if_pos (decide_eq_true hw),List.append_nil]
 exact⟨⟨h.len,by rw[h2];exact h.pre,fun x hx=>h.post x ae,by rw[h2];have:=h.lt;omega⟩,by rw[h2]⟩
theorem w7.sa {t:Int} {bs R:List PB} {j:Nat} (h:w7 t bs j R) (hj:j<bs.length) (hw:¬bs[j].s<t):w7 t bs (j+1) (R.set (bw t (bs.take j)).length bs[j])/\(bw t (bs.take (j+1))).length=(bw t (bs.take j)).length+1:=by
 have h2:bw t (bs.take (j+1))=bw t (bs.take j)++[bs[j]]:=by rw[qQ hj,if_neg (by simp only[decide_eq_true_eq];exact hw)]
 have eM:=h.lt
 have hlen:=h.len
 have rX:=h.pre
 generalize hc:(bw t (bs.take j)).length=c at *
 refine⟨⟨by rw[List.length_set];exact hlen,?_,fun x hx=>?_,by rw[h2,List.length_append,hc];simp;omega⟩,by rw[h2,List.length_append,hc];rfl⟩
 ·rw[h2,List.length_append,hc,List.length_singleton,List.take_succ_eq_append_getElem (by rw[List.length_set];omega),List.getElem_set_self,List.take_set_of_le (Nat.le_refl _),rX]
 ·rw[List.getElem?_set_ne ae];exact h.post x ae
theorem w7.at_ {t:Int} {bs R:List PB} {j:Nat} (h:w7 t bs j R) (hj:j<bs.length):(R.map aI)[j]? =some (aI bs[j]):=by
 rw[List.getElem?_map,h.post j (Nat.le_refl j),List.getElem?_eq_getElem hj];rfl
theorem FO {p:PB->Bool} {bs:List PB} (h:¬0<=jx p bs):∀b∈bs,p b=false:=by
 intro b hb
 unfold jx at h
 split at h
 ·omega
 ·rename_i h1
  rw[List.findIdx_lt_length]at h1
  cases hp:p b
  ·rfl
  ·exact absurd ⟨b,hb,hp⟩ h1
theorem FP {p:PB->Bool} {bs:List PB} (h:0<=jx p bs):∃i,∃hi:i<bs.length,jx p bs=(i:Int)/\p bs[i]=true/\∀x (hx:x<i),p (bs[x]'ae)=false:=by
 unfold jx at h ⊢
 split
 ·rename_i h1
  exact⟨bs.findIdx p,h1,rfl,List.findIdx_getElem,fun x hx=>by simpa using List.not_of_lt_findIdx hx⟩
 ·rename_i h1;rw[if_neg h1]at h;omega
theorem IL (bs:List PB) (t:Int) (hl:bs.length<=1048576) (o T:Id) (σ:ax) (ho:σ.get o=some ⟨true,3,bs.map aI⟩) (hT:σ.get T=some ⟨true,1,[[.int .i64 t]]⟩) (xJ:o.bt<σ.next) (Xd:T.bt<σ.next) (Uw:o≠T):
  Call Tryz.prog 174 [.own o 0 bs.length,.fn 176 [.ptr T 0 0]] σ fun r σ'=>∃rows,r=.own o 0 (bw t bs).length/\σ'.get o=some ⟨true,3,rows⟩/\rows.take (bw t bs).length=(bw t bs).map aI/\(bw t bs).length<=rows.length/\σ.next<=σ'.next/\∀i:Id,i.bt<σ.next->i≠o->σ'.get i=σ.get i:=by
 refine ij fF rfl fun jc=>?_
 clear jc
 have C9:=AU bs t hl
 have hzT:∀(g:Rows),g T=some ⟨true,1,[[.int .i64 t]]⟩->V.fz (eu g) 5 (.ptr T 0 0)=some (.dv [.int .i64 t]):=fun g hg=>nq (sz:=1) (rows:=[[.int .i64 t]]) (by simp[eu,hg]) rfl (by simp only[List.drop_zero,ai,aj,aP,Option.map_some])
 have AR:∀(g:Rows),g T=some ⟨true,1,[[.int .i64 t]]⟩->g o=some ⟨true,3,bs.map aI⟩->eC (eu g) 6 [.own o 0 bs.length,.fn 176 [.ptr T 0 0]]=some [.sl (bs.map aI),.fn 176 [.dv [.int .i64 t]]]:=fun g h1 h2=>by
  have q1:=kG (g:=eu g) (n:=5) (e:=aI) (sz:=3) (len:=bs.length) (l:=bs) (id:=o) (by simp[eu,h2]) rfl fun b=>B3 _ 4 b
  have q2:=hzT g h1
  simp only[ai,aj,q1,cP,List.all_cons,List.all_nil,AV.cell,Bool.and_true,if_true,q2,Option.map_some]
 have sC:∀(g:Rows),g T=some ⟨true,1,[[.int .i64 t]]⟩->∀b:PB,eC (eu g) 6 [.agg (aI b),.ptr T 0 0]=some [.agg (aI b),.dv [.int .i64 t]]:=fun g h1 b=>by
  have q3:V.fz (eu g) 6 (.ptr T 0 0)=some (.dv [.int .i64 t]):=nq (sz:=1) (rows:=[[.int .i64 t]]) (by simp[eu,h1]) rfl (by simp only[List.drop_zero,ai,aj,aP,Option.map_some])
  simp only[ai,aj,bx,B3,q3,Option.map_some]
 (try((repeat(revert hN;revert N;apply Pn.out));refine wk @Nat.zero_add ?_;(repeat(refine Pn.mk ?_;intro N hN))))
 refine .inl ⟨_,au.x C9 (AR _ hT ho),?_⟩
 refine hN _ _ ?_
 clear hN N
 by_cases h0:0<=jx (fun b:PB=>decide (b.s<t)) bs
 ·obtain⟨i,hi,C8,Zw,LB⟩:=FP h0
  rw[C8]at *
  have Ja:decide ((i:Int)= -1)=false:=decide_eq_false ae
  have Qu:IntKind.i64.wrap ((i:Int)+1)=((i+1:Nat):Int):=az ae
  obtain⟨ev,yK⟩:=w7.start (t:=t) hi (by simpa using Zw) (fun x hx=>by simpa using LB x hx)
  (try((repeat(revert hN;revert N;apply Pn.out));refine wk (tw @Ja @Qu) ?_;(repeat(refine Pn.mk ?_;intro N hN))))
  refine bz (fun m env st=>∃(j:Nat) (R:List PB),m=bs.length-j/\env 6=.int .i64 (j:Int)/\env 5=.int .i64 ((bw t (bs.take j)).length:Int)/\st.get o=some ⟨true,3,R.map aI⟩/\w7 t bs j R/\j<=bs.length/\σ.next<=st.next/\∀x:Id,x.bt<σ.next->(x=o)=False->st.get x=σ.get x) (bs.length-(i+1)) ⟨i+1,bs,rfl,sd @Qu,sd @yK,sd @ho,ev,ae,aU,fun x _ _=>sd @Nat.zero_add⟩ ?_
  rintro m env_b st_b ⟨j,R,rfl,b6,b5,bg,hD,iv,hle,jn⟩ eW
  have b0:=eW 0 (by kernel_rfl)
  have b1:=eW 1 (by kernel_rfl)
  simp only[go_sem, ↓reduceIte,Nat.reduceEqDiff,Nat.reduceAdd,Nat.reduceSub,Nat.reduceLeDiff,reduceCtorEq]at b0 b1
  clear eW
  have bT:=(jn T Xd (by simp only[eq_iff_iff,iff_false];exact fun h=>Uw h.symm)).trans hT
  have lp:=dj (i:=o) (n:=st_b.next) ae
  have ZL:=dj (i:=T) (n:=st_b.next) ae
  have Vn:=hD.len
  have RB:(R.map aI).length=bs.length:=by rw[List.length_map,Vn]
  have eM:=hD.lt
  by_cases hj:(j:Int)<(bs.length:Int)
  ·have oi:j<bs.length:=ae
   have D8:=hD.at_ oi
   have OO:=M0 bs[j] t
   have ON:IntKind.i64.wrap ((j:Int)+1)=((j+1:Nat):Int):=az ae
   have Vi:=hD.SJ oi
   have Vj:=hD.sa oi
   generalize bs[j]=b at *
   (try((repeat(revert hN;revert N;apply Pn.out));refine wk (tw @b0 (tw @b1 (tw @b5 (tw @b6 (tw @bg (tw @hj (tw @D8 (tw @aI.eq_1 (tw @lp (tw @ZL @RB)))))))))) ?_;(repeat(refine Pn.mk ?_;intro N hN))))
   refine .inl ⟨_,au.x OO (sC _ (sd (tw @ZL @bT)) b),?_⟩
   refine hN _ _ ?_
   clear hN N
   by_cases hw:b.s<t
   ·obtain⟨Rt,Rs⟩:=Vi hw
    have hd:decide (b.s<t)=true:=decide_eq_true hw
    (try((repeat(revert hN;revert N;apply Pn.out));refine wk (tw @b0 (tw @b1 (tw @b5 (tw @b6 (tw @hd @ON))))) ?_;(repeat(refine Pn.mk ?_;intro N hN))))
    refine⟨_,?_,j+1,R,rfl,sd @ON,sd (tw @b5 @Rs),sd (tw @bg @lp),Rt,ae,aU,fun x hx xn=>?_⟩
    ·omega
    ·have NM:=dj (i:=x) (n:=st_b.next) ae
     have:=jn x hx xn
     simp only[go_sem, ↓reduceIte,Nat.reduceEqDiff,Nat.reduceAdd,Nat.reduceSub,Nat.reduceLeDiff,reduceCtorEq,NM,this]
   ·obtain⟨Rt,Rs⟩:=Vj hw
    have hd:decide (b.s<t)=false:=decide_eq_false hw
    have RG:((bw t (bs.take j)).length:Int)<(bs.length:Int):=ae
    have V5:IntKind.i64.wrap (((bw t (bs.take j)).length:Int)+1)=(((bw t (bs.take j)).length+1:Nat):Int):=az ae
    have fj:(R.map aI).set (bw t (bs.take j)).length [.int .i64 (b.a:Int),.int .i64 (b.b:Int),.int .i64 b.s]=(R.set (bw t (bs.take j)).length b).map aI:=by rw[List.map_set];rfl
    have Ov:∃y,(R.map aI)[(bw t (bs.take j)).length]? =some (aI y):=⟨R[(bw t (bs.take j)).length]'ae,by rw[List.getElem?_map,List.getElem?_eq_getElem ae];rfl⟩
    obtain⟨y,Ov⟩:=Ov
    rw[aI]at Ov
    (try((repeat(revert hN;revert N;apply Pn.out));refine wk (tw @b0 (tw @b1 (tw @b5 (tw @b6 (tw @bg (tw @hd (tw @ON (tw @V5 (tw @RG (tw @fj (tw @Ov (tw @lp (tw @ZL @RB))))))))))))) ?_;(repeat(refine Pn.mk ?_;intro N hN))))
    refine⟨_,?_,j+1,_,rfl,sd @ON,sd (tw @V5 @Rs),sd @fj,Rt,ae,aU,fun x hx xn=>?_⟩
    ·omega
    ·have NM:=dj (i:=x) (n:=st_b.next) ae
     have:=jn x hx xn
     simp only[go_sem, ↓reduceIte,Nat.reduceEqDiff,Nat.reduceAdd,Nat.reduceSub,Nat.reduceLeDiff,reduceCtorEq,NM,this,xn]
  ·have iv:j=bs.length:=ae
   subst iv
   have rX:=hD.pre
   rw[List.take_length]at b5 eM rX
   have RG:((bw t bs).length:Int)<=(bs.length:Int):=ae
   have Ul:(bw t bs).length<=bs.length:=ae
   have oJ:(bw t bs).length+(bs.length-(bw t bs).length)=bs.length:=ae
   have yK:=oZ t bs
   (try((repeat(revert hN;revert N;apply Pn.out));refine wk (tw @b0 (tw @b1 (tw @b5 (tw @b6 (tw @bg (tw @hj (tw @RB (tw @RG (tw @Ul (tw @oJ (tw @Nat.le_refl (tw @Nat.sub_zero (tw @Int.le_refl @lp))))))))))))) ?_;(repeat(refine Pn.mk ?_;intro N hN))))
   refine gN (.inl rfl) (vs:=[.own o 0 (bw t bs).length]) (sd @Nat.zero_add) ⟨_,rfl,by simp only[go_sem, ↓reduceIte,Nat.reduceEqDiff,Nat.reduceAdd,Nat.reduceSub,Nat.reduceLeDiff,reduceCtorEq];rfl,?_,?_,aU,fun x hx xn=>?_⟩
   ·have hm:List.take (bw t bs).length (List.map aI R)=(bw t bs).map aI:=by rw[<-List.map_take,rX]
    rw[hm,List.append_assoc,List.take_append_of_le_length (by simp),List.take_of_length_le (by simp)]
   ·have hm:List.take (bw t bs).length (List.map aI R)=(bw t bs).map aI:=by rw[<-List.map_take,rX]
    rw[hm]
    simp only[List.length_append,List.length_map]
    omega
   ·have LL:(x=o)=False:=by simp only[eq_iff_iff,iff_false];exact xn
    have:=jn x hx LL
    simp only[go_sem, ↓reduceIte,Nat.reduceEqDiff,Nat.reduceAdd,Nat.reduceSub,Nat.reduceLeDiff,reduceCtorEq,LL,this]
 ·have hn:=FO h0
  have ev:=w5 (t:=t) (bs:=bs) fun b hb=>by simpa using hn b hb
  have hd:decide (jx (fun b:PB=>decide (b.s<t)) bs= -1)=true:=decide_eq_true (by
   unfold jx at h0 ⊢
   split
   ·rename_i h;rw[if_pos h]at h0;omega
   ·rfl)
  (try((repeat(revert hN;revert N;apply Pn.out));refine wk @hd ?_;(repeat(refine Pn.mk ?_;intro N hN))))
  refine gN (.inl rfl) (vs:=[.own o 0 bs.length]) (sd @Nat.zero_add) ⟨bs.map aI,by rw[ev];rfl,sd @ho,by rw[ev,List.take_of_length_le (by simp)],by rw[ev];simp,aU,fun x _ _=>rfl⟩
end Go.Proofs.YtiabgllilcfheaaGreat.V

namespace Go.Proofs.YtiabgllilcfheaaGreat.V
open Go.RowKit
variable {P:Program}
theorem Sd (hm:P.follows .mixedOrders=true) {f:Nat} {args:List AV} {vs:Array Value} {w:World} (h:au P f args (.bool true)) (hA:gy P w (fun b=>b<w.heap.size) (fun _=>none) args vs):
  Calls P f vs w fun e w'=>e=.returned (.bool true)/\Below w.heap.size w w':=by
 have hs:=iC hm (h 0) w.heap.size (fun b=>b<w.heap.size) (fun _=>none) w vs ⟨Nat.le_refl _,fun _ h=>h,fun id r h=>(by cases h),fun id kV r r' B B' h=>(by cases h)⟩ (fun id h=>absurd rfl h) hA
 refine hs.mono ?_
 rintro e w' ⟨r,g',n',D',ι',u,rfl,⟨r',hz,rfl⟩,ev,hsim,_,_,iP⟩
 have hr:r=.bool true:=by
  cases r<;>rw[gU]at hz<;>simp_all
  all_goals (repeat' (split at hz))<;>simp_all
 subst hr
 exact⟨by rw[gj iP],ev.below⟩
theorem nU {xs:List AV} {w:World} {D:Nat->Prop} {ι:Names} {a:AV} {v:Value} {vs:Array Value} (h:ly P w D a v) (k:gy P w D ι xs vs):gy P w D ι (a::xs) (#[v]++vs):=
 qN (xs:=[a]) ⟨rfl,fun j b hj=>by
  cases j with
  |zero=>simp at hj;subst hj;exact⟨v,rfl,.fy _ _ h⟩
  |succ j=>simp at hj⟩ k
end Go.Proofs.YtiabgllilcfheaaGreat.V

namespace Go.Proofs.YtiabgllilcfheaaGreat.V
open Go.RowKit Go.Shelf
attribute [local go_sem] Oper.semAt_some
structure rP (W:World) (v:Value) (l:List aa):Prop where
 sl:∃A c,v=.slice A l.length c/\(l.length<=c/\c<=maxLen)/\(l=[]∨∃b o,A=some ⟨b,o,none⟩/\∀i,i<l.length->W.cell? ⟨b,o+(i*3+0),none⟩=some (.int .i64 (aQ l i).aV.fP)/\W.cell? ⟨b,o+(i*3+1),none⟩=some (.int .i64 (aQ l i).aV.fE)/\W.cell? ⟨b,o+(i*3+2),none⟩=some (.int .i64 (aQ l i).bp))
structure Ku (K:World->World->Prop) (v:Value) (l:List aa):Prop where
 refl:∀W,K W W
 trans:∀{A B C:World},K A B->K B C->K A C
 of:∀{W W':World},Below W.heap.size W W'->K W W'
 size:∀{W W':World},K W W'->W.heap.size<=W'.heap.size
 typed:∀{W W':World},K W W'->∀(b:Nat) (cells:Array Value) (T:TypeId) (fr:Nat×Nat),W.heap[b]? =some (Obj.cells cells T fr)->T≠138->T≠163->W'.heap[b]? =W.heap[b]?
 pl:∀{W W':World},K W W'->rP W v l->rP W' v l
theorem xx {W:World} {b x:Nat} {v:Value} (h:W.cell? ⟨b,x,none⟩=some v):b<W.heap.size:=by
 rcases Nat.lt_or_ge b W.heap.size with h1|h1
 ·exact h1
 ·simp[World.cell?,Array.getElem?_eq_none h1]at h
theorem rP.below {W W':World} {v:Value} {l:List aa} (h:rP W v l) (k:Below W.heap.size W W'):rP W' v l:=by
 obtain⟨A,c,rfl,hm,hc⟩:=h.sl
 refine⟨A,c,rfl,hm,?_⟩
 rcases hc with h0|⟨b,o,rfl,mT⟩
 ·exact .inl h0
 ·refine .inr ⟨b,o,rfl,fun i hi=>?_⟩
  obtain⟨h1,h2,h3⟩:=mT i hi
  have hb:=xx h1
  exact⟨(k.cell (p:=⟨b,_,none⟩) hb).trans h1,(k.cell (p:=⟨b,_,none⟩) hb).trans h2,(k.cell (p:=⟨b,_,none⟩) hb).trans h3⟩
theorem rP.fy {P:Program} {W:World} {v:Value} {l:List aa} (h:rP W v l):ly P W (fun b=>b<W.heap.size) (.sl (l.map ab)) v:=by
 obtain⟨A,c,rfl,hm,hc⟩:=h.sl
 rcases hc with rfl|⟨b,o,rfl,mT⟩
 ·exact .Db A c (by simpa using hm.2)
 by_cases Qh:l=[]
 ·subst Qh;exact .Db _ c (by simpa using hm.2)
 ·have lH:0<l.length:=List.length_pos_iff.2 Qh
  have hb:=xx (mT 0 lH).1
  refine .sl (l.map ab) b o l.length c 3 (fun i j=>if j=0 then .int .i64 (aQ l i).aV.fP else if j=1 then .int .i64 (aQ l i).aV.fE else .int .i64 (aQ l i).bp) (by simp) hm.1 hm.2 hb (fun cs eD=>?_) (fun cs eD a ha=>?_) (fun i j hi hj=>?_) (fun i j cs a hi hj=>?_)
  ·obtain⟨x,_,rfl⟩:=List.mem_map.1 eD;rfl
  ·obtain⟨x,_,rfl⟩:=List.mem_map.1 eD
   simp[ab]at ha
   rcases ha with rfl|rfl|rfl<;>rfl
  ·obtain⟨h1,h2,h3⟩:=mT i hi
   match j,hj with
   |0,_=>exact h1
   |1,_=>exact h2
   |2,_=>exact h3
   |j+3,hj=>omega
  ·have l5:i<l.length:=by have:=(List.getElem?_eq_some_iff.1 hi).1;simpa using this
   rw[fR l5]at hi
   injection hi with hi
   subst hi
   match j,hj with
   |0,hj=>simp[ab]at hj;subst hj;exact .int _ _
   |1,hj=>simp[ab]at hj;subst hj;exact .int _ _
   |2,hj=>simp[ab]at hj;subst hj;exact .int _ _
   |j+3,hj=>simp[ab]at hj
theorem Dv {P:Program} (hm:P.follows .mixedOrders=true) {f:Nat} {args:List AV} {vs:Array Value} {w:World} {r:AV} (h:au P f args r) (hr:∀g r0,gU g 6 r0=some r->r0=r) (hA:gy P w (fun b=>b<w.heap.size) (fun _=>none) args vs):
  Calls P f vs w fun e w'=>∃D ι u,e=.returned u/\dy P w' D ι r u/\Below w.heap.size w w':=by
 have hs:=iC hm (h 0) w.heap.size (fun b=>b<w.heap.size) (fun _=>none) w vs ⟨Nat.le_refl _,fun _ h=>h,fun id r h=>(by cases h),fun id kV r r' B B' h=>(by cases h)⟩ (fun id h=>absurd rfl h) hA
 refine hs.mono ?_
 rintro e w' ⟨r0,g',n',D',ι',u,rfl,⟨r',hz,rfl⟩,ev,hsim,_,_,iP⟩
 have:=hr _ _ hz
 subst this
 exact⟨D',ι',u,rfl,iP,ev.below⟩
theorem qw {g:Rows} {n:Nat} {a:AV} {k:IntKind} {m:Int} (h:gU g (n+1) a=some (.int k m)):a=.int k m:=by
 cases a<;>rw[gU]at h<;>simp_all
 all_goals (repeat' (split at h))<;>simp_all
theorem FZ {g:Rows} {a:AV} {x y:Int} (h:gU g 6 a=some (.agg [.int .i64 x,.int .i64 y])):a=.agg [.int .i64 x,.int .i64 y]:=by
 cases a with
 |agg cs=>
  rw[oG]at h
  simp only[Option.map_eq_some_iff,AV.agg.injEq,exists_eq_right]at h
  match cs,h with
  |[],h=>rw[cH]at h;simp at h
  |[a],h=>
   rw[bF,cH]at h
   cases ha:gU g 5 a<;>simp[ha]at h
  |[a,b],h=>
   rw[bF,bF,cH]at h
   cases ha:gU g 5 a<;>cases hb:gU g 5 b<;>simp[ha,hb]at h
   obtain⟨rfl,rfl⟩:=h
   rw[qw ha,qw hb]
  |a::b::c::r,h=>
   rw[bF,bF,bF]at h
   cases ha:gU g 5 a<;>cases hb:gU g 5 b<;>cases hc:gU g 5 c<;>cases hd:fb g 5 r<;>simp[ha,hb,hc,hd]at h
 |_=>rw[gU]at h<;>simp_all<;>(repeat' (split at h))<;>simp_all
theorem GX (W:World) (p:ar) (d:Int) (hd:js d 0 3=true) (hx:iB p.fP) (hy:iB p.fE):Calls Tryz.prog 106 #[.agg #[.int .i64 p.fP,.int .i64 p.fE],.int .i64 d] W fun e W'=>e=.returned (.agg #[.int .i64 (dq p d).fP,.int .i64 (dq p d).fE])/\Below W.heap.size W W':=by
 refine(Dv mixed (GZ p d hd hx hy) (fun g r0 h=>FZ h) ?_:Calls _ _ _ _ _).mono ?_
 ·exact nU (vs:= #[.int .i64 d]) (.agg _ _ (fun j=>if j=0 then .int .i64 p.fP else .int .i64 p.fE) rfl (fun a ha=>by simp[ah]at ha;rcases ha with rfl|rfl<;>rfl) (fun j hj=>by match j,hj with|0,_=>rfl|1,_=>rfl|j+2,hj=>simp[ah]at hj;omega) (fun j a ha=>by match j,ha with|0,ha=>simp[ah]at ha;subst ha;exact .int _ _|1,ha=>simp[ah]at ha;subst ha;exact .int _ _|j+2,ha=>simp[ah]at ha)) (nU (vs:= #[]) (.int _ _) zk)
 ·rintro e W' ⟨D,ι,u,rfl,hr,hB⟩
  refine⟨?_,hB⟩
  obtain⟨vs,f,rfl,e9,_,h1,h2⟩:=jN hr
  have v0:=h1 0 (by simp[ah])
  have v1:=h1 1 (by simp[ah])
  rw[ew (h2 0 _ rfl)]at v0
  rw[ew (h2 1 _ rfl)]at v1
  obtain⟨vl⟩:=vs
  match vl,e9 with
  |[a,b],_=>
   simp at v0 v1
   rw[v0,v1]
theorem Af (W:World) (l:List aa) (v:Value) (hP:rP W v l) (p:ar) (hR:jt l) (I0:l.length<=1048576):Calls Tryz.prog 191 #[.agg #[v],.agg #[.int .i64 p.fP,.int .i64 p.fE]] W fun e W'=>e=.returned (.int .i64 (eO l p))/\Below W.heap.size W W':=by
 refine(Dv mixed (JM l p hR I0) (fun g r0 h=>qw h) ?_:Calls _ _ _ _ _).mono ?_
 ·exact nU (vs:= #[.agg #[.int .i64 p.fP,.int .i64 p.fE]]) (.agg _ _ (fun _=>v) rfl (fun a ha=>by simp at ha;rw[ha];rfl) (fun j hj=>by match j,hj with|0,_=>rfl|j+1,hj=>simp at hj) (fun j a ha=>by match j,ha with|0,ha=>simp at ha;subst ha;exact hP.fy|j+1,ha=>simp at ha)) (nU (vs:= #[]) (.agg _ _ (fun j=>if j=0 then .int .i64 p.fP else .int .i64 p.fE) rfl (fun a ha=>by simp[ah]at ha;rcases ha with rfl|rfl<;>rfl) (fun j hj=>by match j,hj with|0,_=>rfl|1,_=>rfl|j+2,hj=>simp[ah]at hj;omega) (fun j a ha=>by match j,ha with|0,ha=>simp[ah]at ha;subst ha;exact .int _ _|1,ha=>simp[ah]at ha;subst ha;exact .int _ _|j+2,ha=>simp[ah]at ha)) zk)
 ·rintro e W' ⟨D,ι,u,rfl,hr,hB⟩
  exact⟨by rw[ew hr],hB⟩
theorem grown_of {W W':World} (h:Below W.heap.size W W'):W.grownBy W' none:=⟨h.os,h.tape,h.output,h.size,fun k hk _=>h.block k hk⟩
def EO (l:List aa) (i:Nat) (d:Int):List (Nat×Nat×Int):=if 0<=eO l (dq (aQ l i).aV d)then[(i,(eO l (dq (aQ l i).aV d)).toNat,d)]else[]
def l9 (l:List aa) (i m:Nat):List (Nat×Nat×Int):=(List.range m).flatMap fun j:Nat=>EO l i (1-(j:Int))
def mJ (l:List aa) (n:Nat):List (Nat×Nat×Int):=(List.range n).flatMap fun i=>l9 l i 2
theorem nT (l:List aa) (n:Nat):mJ l (n+1)=mJ l n++l9 l n 2:=by simp[mJ,List.range_succ]
theorem oN (l:List aa) (i m:Nat):l9 l i (m+1)=l9 l i m++EO l i (1-(m:Int)):=by simp[l9,List.range_succ]
theorem Sj (l:List aa) {k m:Nat} (hk:k<l.length) (hm:m<=2):mJ l k++l9 l k m <+:mJ l l.length:=by
 have h1:∀d,mJ l k <+:mJ l (k+d):=fun d=>by
  induction d with
  |zero=>exact List.prefix_refl _
  |succ d ih=>rw[<-Nat.add_assoc,nT l (k+d)];exact ih.trans (List.prefix_append _ _)
 have h2:∀d,mJ l (k+1) <+:mJ l (k+1+d):=fun d=>by
  induction d with
  |zero=>exact List.prefix_refl _
  |succ d ih=>rw[<-Nat.add_assoc,nT l (k+1+d)];exact ih.trans (List.prefix_append _ _)
 have h3:=h2 (l.length-(k+1))
 rw[show k+1+(l.length-(k+1))=l.length by omega,nT]at h3
 refine List.IsPrefix.trans ?_ h3
 have h4:l9 l k m <+:l9 l k 2:=by
  have:m=0∨m=1∨m=2:=ae
  rcases this with rfl|rfl|rfl
  ·exact List.nil_prefix
  ·rw[oN l k 1];exact List.prefix_append _ _
  ·exact List.prefix_refl _
 exact(List.prefix_append_right_inj _).2 h4
def UN (l:List aa) (x:Nat×Nat×Int):Prop:=x.1<l.length/\x.2.1<l.length/\(0<=x.2.2/\x.2.2<=1)/\(x.2.1:Int)=eO l (dq (aQ l x.1).aV x.2.2)
def Ht (x:Nat×Nat×Int):Array Value:= #[.agg #[.int .i64 (x.1:Int),.int .i64 (x.2.1:Int)],.int .i64 x.2.2]
theorem OS (l:List aa) (p:ar) (h:0<l.length:=by omega):eO l p<(l.length:Int):=by
 unfold eO
 split<;>omega
theorem Wj (l:List aa) (hA:jz l) (q Ba:Nat) (vS:Value) (K:World->World->Prop) (kl:Ku K vS l) (J Jx:List (Nat×Nat×Int)->World->Prop) (n:Nat) (hn:1<=n)
  (hY:∀pre x W,J pre W->pre.length<(mJ l l.length).length->UN l x->YieldAt Fence.wide (n-1) Tryz.prog q (Ht x) W fun e W'=>
   (e=.returned (.bool true)/\J (pre++[x]) W'/\K W W')∨(e=.returned (.bool false)/\Jx (pre++[x]) W'))
  (W:World) (hJ:AbidesFrom W.heap.size J) (Rq:W.heap[Ba]? =some (.cells #[vS] 30 (0,0))) (hP:rP W vS l) (h0:J [] W):
  CallsIn Fence.wide n Tryz.prog 190 #[.func (.yield q) #[] #[],.pointer (some ⟨Ba,0,none⟩)] W fun e W'=>(∃v,e=.returned v)/\
   ((∃ys,ys=mJ l l.length/\J ys W')∨(∃pre,pre <+:mJ l l.length/\Jx pre W')):=by
 obtain⟨A,cp,rfl,_,_⟩:=hP.sl
 refine callsIn_of_wp Tryz.func190 rfl trivial ?_ rfl
 simp only[Tryz.ntmps190,List.size_toArray,List.length_cons,List.length_nil,Nat.reduceAdd,Nat.reduceSub,Array.replicate_succ,Array.replicate_zero,List.push_toArray,List.append_toArray,List.nil_append,List.cons_append]
 have kB:W.cell? ⟨Ba,0,none⟩=some (.slice A l.length cp):=by simp[World.cell?,Rq]
 gi_wp2
 gi_loopw [11] (fun i wr=>∃k:Nat,k<=l.length/\i=.int .i64 k/\J (mJ l k) wr/\K W wr)
  (fun i _=>l.length-(intOf i).toNat)
 case atStart=>exact⟨0,Nat.zero_le _,rfl,h0,kl.refl _⟩
 case round=>
  obtain⟨k,hk,rfl,hJs,hKt⟩:=hrel
  by_cases eM:k<l.length
  ·have eD:∃b o,A=some ⟨b,o,none⟩/\wr.cell? ⟨b,o+k*3,none⟩=some (.int .i64 (aQ l k).aV.fP)/\wr.cell? ⟨b,o+k*3+1,none⟩=some (.int .i64 (aQ l k).aV.fE)/\wr.cell? ⟨b,o+k*3+2,none⟩=some (.int .i64 (aQ l k).bp):=by
    obtain⟨A',c',hv,_,hc⟩:=(kl.pl hKt hP).sl
    cases hv
    rcases hc with rfl|⟨b,o,rfl,mT⟩
    ·simp at eM
    ·obtain⟨h1,h2,h3⟩:=mT k eM
     exact⟨b,o,rfl,by simpa using h1,by rw[Nat.add_assoc];exact h2,by rw[Nat.add_assoc];exact h3⟩
   obtain⟨b,o,rfl,hx,XJ,ht⟩:=eD
   gi_wp2
   obtain⟨W2,Vs⟩:∃W2,(wr.alloc (.cells #[.int .i64 (aQ l k).aV.fP,.int .i64 (aQ l k).aV.fE,.int .i64 (aQ l k).bp] 70)).alloc (.cells #[.int .i64 1,.int .i64 0] 2)=W2:=⟨_,rfl⟩
   have lP:Below wr.heap.size wr W2:=by rw[<-Vs];exact((Below.refl _ wr).alloc (Nat.le_refl _) _).alloc (by simp) _
   have YH:W2.heap[wr.heap.size]? =some (.cells #[.int .i64 (aQ l k).aV.fP,.int .i64 (aQ l k).aV.fE,.int .i64 (aQ l k).bp] 70 (0,0)):=by
    rw[<-Vs,Below.heap_alloc _ _ _ (by simp)];exact World.alloc_heap_new _ _
   have YG:W2.heap[wr.heap.size+1]? =some (.cells #[.int .i64 1,.int .i64 0] 2 (0,0)):=by
    have:=World.alloc_heap_new (wr.alloc (.cells #[.int .i64 (aQ l k).aV.fP,.int .i64 (aQ l k).aV.fE,.int .i64 (aQ l k).bp] 70)) (.cells #[.int .i64 1,.int .i64 0] 2)
    rw[World.size_alloc]at this
    rw[<-Vs];exact this
   have RA:K W W2:=kl.trans hKt (kl.of lP)
   have hJ2:J (mJ l k++l9 l k 0) W2:=by
    have:=hJ _ _ _ none hJs (grown_of lP) (fun r h=>by cases h)
    simpa[l9]using this
   rw[Vs]
   clear Vs
   generalize wr=w1 at *
   gi_loopw [18] (fun j wr=>∃m:Nat,m<=2/\j=.int .i64 m/\J (mJ l k++l9 l k m) wr/\K W2 wr)
    (fun j _=>2-(intOf j).toNat)
   case atStart=>exact⟨0,ae,rfl,hJ2,kl.refl _⟩
   case round=>
    obtain⟨m,hm,rfl,hJm,P8⟩:=hrel
    have Zh:m=0∨m=1∨m=2:=ae
    by_cases Ce:m<2
    ·have hkd:=kl.typed P8 _ _ _ _ YG (by decide) (by decide)
     have NF:=kl.typed P8 _ _ _ _ YH (by decide) (by decide)
     have hka:=kl.typed (kl.trans RA P8) _ _ _ _ Rq (by decide) (by decide)
     have cd:wr.cell? ⟨w1.heap.size+1,m,none⟩=some (.int .i64 (1-(m:Int))):=by
      rw[World.cell?_of_block hkd]
      rcases Zh with rfl|rfl|rfl
      ·simp[World.cell?,YG]
      ·simp[World.cell?,YG]
      ·omega
     have ct0:wr.cell? ⟨w1.heap.size,0,none⟩=some (.int .i64 (aQ l k).aV.fP):=by rw[World.cell?_of_block NF];simp[World.cell?,YH]
     have ct1:wr.cell? ⟨w1.heap.size,1,none⟩=some (.int .i64 (aQ l k).aV.fE):=by rw[World.cell?_of_block NF];simp[World.cell?,YH]
     have ca:wr.cell? ⟨Ba,0,none⟩=some (.slice (some ⟨b,o,none⟩) l.length cp):=by rw[World.cell?_of_block hka];simp[World.cell?,Rq]
     have hPw:rP wr (.slice (some ⟨b,o,none⟩) l.length cp) l:=kl.pl (kl.trans RA P8) hP
     have hba:Ba<wr.heap.size:=by
      have h1:=(Array.getElem?_eq_some_iff.1 Rq).1
      have h2:=kl.size (kl.trans RA P8)
      omega
     have hdm:js (1-(m:Int)) 0 3=true:=jo ae
     have Qk:=qM (hA.pt eM)
     have UA:=fun w0=>GX w0 (aQ l k).aV (1-(m:Int)) hdm Qk.1 Qk.2
     have hPd:rP wr.drew (.slice (some ⟨b,o,none⟩) l.length cp) l:=hPw.below ⟨rfl,rfl,rfl,Nat.le_refl _,fun _ _=>rfl⟩
     have cad:wr.drew.cell? ⟨Ba,0,none⟩=some (.slice (some ⟨b,o,none⟩) l.length cp):=ca
     have ctd0:wr.drew.cell? ⟨w1.heap.size,0,none⟩=some (.int .i64 (aQ l k).aV.fP):=ct0
     have ctd1:wr.drew.cell? ⟨w1.heap.size,1,none⟩=some (.int .i64 (aQ l k).aV.fE):=ct1
     have Xo:=hA.nO
     have VM:=hA.om
     have Zi:=mixed
     gi_wp2
     gi_region_with_o (first|(refine⟨trivial,?_⟩;gi_at_call 106;refine(callsIn_wide.2 (UA _)).mono ?_;rintro e w3 ⟨rfl,DY⟩;have ca3:=(DY.cell (p:=⟨Ba,0,none⟩) hba).trans cad)|(refine⟨trivial,?_⟩;gi_at_call 191;refine(callsIn_wide.2 (Af _ l _ (hPd.below DY) (dq (aQ l k).aV (1-(m:Int))) VM ae)).mono ?_;rintro e w4 ⟨rfl,hB4⟩))
     all_goals
      have Rp:Below wr.heap.size wr w4:=(show Below wr.heap.size wr wr.drew from⟨rfl,rfl,rfl,Nat.le_refl _,fun _ _=>rfl⟩).trans (DY.trans (hB4.mono DY.size))
      have hJ4:J (mJ l k++l9 l k m) w4:=hJ _ _ _ none hJm (grown_of Rp) (fun r h=>by cases h)
      have rX:=Sj l eM (m:=m+1) ae
      rw[oN,<-List.append_assoc]at rX
      have pr:=oN l k m
      have hw:wrap64 ((m:Int)+1)=((m+1:Nat):Int):=by unfold wrap64;omega
      by_cases Cd:0<=eO l (dq (aQ l k).aV (1-(m:Int)))
      ·have fU:((eO l (dq (aQ l k).aV (1-(m:Int)))).toNat:Int)=eO l (dq (aQ l k).aV (1-(m:Int))):=ae
       rw[EO,if_pos Cd]at rX pr
       obtain⟨fn,tmps,assign,body,hy,hR⟩:=hY _ (k,(eO l (dq (aQ l k).aV (1-(m:Int)))).toNat,1-(m:Int)) w4 hJ4 (by
        have:=rX.length_le
        simp only[List.length_append,List.length_cons,List.length_nil]at this ⊢
        omega) ⟨eM,by
        have:eO l (dq (aQ l k).aV (1-(m:Int)))<(l.length:Int):=OS _ _
        show(eO l (dq (aQ l k).aV (1-(m:Int)))).toNat<l.length
        omega,⟨by show 0<=1-(m:Int);omega,by show 1-(m:Int)<=1;omega⟩,fU⟩
       simp only[Ht,fU]at hy
       gi_wp2
       refine hR.mono ?_
       rintro e W3 (⟨rfl,hJ3,Kl⟩|⟨rfl,hJx3⟩)
       ·gi_wp2
        go_roundw
        case rel=>exact⟨m+1,ae,by simp,by rw[pr,<-List.append_assoc];exact hJ3,kl.trans (kl.trans P8 (kl.of Rp)) Kl⟩
        case measure=>simp[intOf];omega
       ·gi_wp2
        refine bodyPost_ret (results_none rfl _ _ _) rfl ?_
        exact⟨⟨_,rfl⟩,.inr ⟨_,rX,hJx3⟩⟩
      ·rw[EO,if_neg Cd,List.append_nil]at pr
       gi_wp2
       refine⟨fun _ h=>(by cases h),?_⟩
       gi_wp2
       go_roundw
       case rel=>exact⟨m+1,ae,by simp,by rw[pr];exact hJ4,kl.trans P8 (kl.of Rp)⟩
       case measure=>simp[intOf];omega
    ·obtain rfl:m=2:=ae
     have Xo:=hA.nO
     gi_wp2
     go_roundw
     case rel=>exact⟨k+1,ae,by simp,by rw[nT];exact hJm,kl.trans RA P8⟩
     case measure=>simp[intOf];omega
  ·obtain rfl:k=l.length:=ae
   gi_wp2
   go_end0
   exact⟨⟨_,rfl⟩,.inl ⟨_,rfl,hJs⟩⟩
theorem Cx (n:Nat) (vS:Value) (w:World):CallsIn Fence.wide n Tryz.prog 177 #[.agg #[vS]] w fun e w'=>e=.returned (.func (.func 190) #[] #[.pointer (some ⟨w.heap.size,0,none⟩)])/\w'=w.alloc (.cells #[vS] 30):=by
 refine callsIn_of_wp Tryz.func177 rfl trivial ?_ rfl
 simp only[Tryz.ntmps177,List.size_toArray,List.length_cons,List.length_nil,Nat.reduceAdd,Nat.reduceSub,Array.replicate_succ,Array.replicate_zero,List.push_toArray,List.append_toArray,List.nil_append,List.cons_append]
 gi_wp2
 go_ret
 exact⟨rfl,rfl⟩
abbrev QP (l:List aa):Type:={x:Nat×Nat×Int // UN l x}
theorem L9 (l:List aa) (hA:jz l) (Ba n:Nat) (hn:1<=n) (vS:Value) (K:World->World->Prop) (kl:Ku K vS l) (w:World) (Rq:w.heap[Ba]? =some (.cells #[vS] 30 (0,0))) (hP:rP w vS l):
  SeqStopsK Fence.wide n Tryz.prog 190 #[.pointer (some ⟨Ba,0,none⟩)] (fun x:QP l=>Ht x.1) K (fun ys=>ys.map (·.1)=mJ l l.length) (fun _=>True) (mJ l l.length).length w:=fun q J Jx W hW hJ _ hY h0=>by
 refine(Wj l hA q Ba vS K kl (fun ys W=>∃zs:List (QP l),zs.map (·.1)=ys/\J zs W) (fun ys W=>∃zs:List (QP l),zs.map (·.1)=ys/\Jx zs W) n hn (fun pre x W1 hJ1 eM yI=>?_) W (fun s A B row ⟨zs,e,h⟩ hg hr=>⟨zs,e,hJ zs A B row h hg hr⟩) ((hW.block Ba (Array.getElem?_eq_some_iff.1 Rq).1).trans Rq) (hP.below hW) ⟨[],rfl,h0⟩).mono ?_
 ·obtain⟨zs,rfl,h1⟩:=hJ1
  refine YieldAt.mono (hY zs ⟨x,yI⟩ W1 h1 (by simpa using eM)) ?_
  rintro e W' (⟨h2,h3,h4⟩|⟨h2,h3⟩)
  ·exact .inl ⟨h2,⟨zs++[⟨x,yI⟩],by simp,h3⟩,h4⟩
  ·exact .inr ⟨h2,⟨zs++[⟨x,yI⟩],by simp,h3⟩⟩
 ·rintro e W' ⟨h1,⟨ys,rfl,zs,h2,h3⟩|⟨pre,_,zs,h2,h3⟩⟩
  ·exact⟨h1,.inl ⟨zs,h2,h3⟩⟩
  ·exact⟨h1,.inr ⟨zs,trivial,h3⟩⟩
def BO (s:ay) (l:List aa) (x:Nat×Nat×Int):List PB:=if 0<iI s (aQ l x.1).bp x.2.2 (aQ l x.2.1).bp then[⟨x.1,x.2.1,iI s (aQ l x.1).bp x.2.2 (aQ l x.2.1).bp⟩]else[]
theorem KR (s:ay) (l:List aa):dz s l=(mJ l l.length).flatMap (BO s l):=by
 have h1:∀i d,oD s l i d=(EO l i d).flatMap (BO s l):=fun i d=>by
  unfold oD EO
  by_cases h:0<=eO l (dq (aQ l i).aV d)
  ·rw[if_pos h]
   simp only[List.flatMap_cons,List.flatMap_nil,List.append_nil,BO]
   by_cases h2:0<iI s (aQ l i).bp d (aQ l (eO l (dq (aQ l i).aV d)).toNat).bp
   ·rw[if_pos ⟨h,h2⟩,if_pos h2]
   ·rw[if_neg fun hc=>h2 hc.2,if_neg h2]
  ·rw[if_neg h,if_neg fun hc=>h hc.1];rfl
 unfold dz iU mJ
 rw[List.flatMap_assoc]
 congr 1
 funext i
 unfold iq l9
 rw[List.flatMap_assoc]
 congr 1
 funext j
 exact h1 i _
end Go.Proofs.YtiabgllilcfheaaGreat.V

namespace Go.Proofs.YtiabgllilcfheaaGreat.V
open Go.RowKit
attribute [local irreducible] er wpOps fY Call
attribute [local go_sem] aF fC eR fN fK du upd cw K.av cQ AV.cells AV.cell rowOf rowsOf part ld rowAt bK cq dH dX gG bP dd eh fJ fa dw ea db da dM dP bV bd cU bU cW cV dV eb dZ cR bY dc dY bQ aD cY cF gF bD cL bW aY dn bj dI AV.undef bH bJ dQ dW dL dK cK ef eo cz ee ec cX cZ List.getD_cons_zero List.getD_cons_succ List.getD_nil List.all_cons List.all_nil Bool.and_true Bool.true_and Bool.and_self Bool.not_true Bool.not_false Option.map_some Option.map_none Option.bind_some Option.bind_none List.length_cons List.length_nil List.take_succ_cons List.take_zero List.take_nil List.drop_succ_cons List.drop_zero List.drop_nil List.head?_cons List.map_cons List.map_nil List.getElem?_cons_zero List.getElem?_cons_succ List.cons_append List.nil_append List.append_nil List.length_map List.set_cons_zero List.set_cons_succ Nat.reduceMul eq_self Int.toNat_natCast Int.natCast_nonneg and_self true_and and_true decide_true decide_false Bool.false_eq_true Nat.zero_add Nat.add_zero List.contains_cons List.contains_nil Bool.or_false Bool.false_or beq_self_eq_true Nat.reduceBEq ne_eq not_true_eq_false not_false_eq_true Id.mk.injEq false_and and_false Nat.reduceLT Int.reduceLE Int.reduceLT Int.reduceToNat Int.reduceNeg Int.reduceAdd Nat.le_refl List.length_append beq_true beq_false Bool.not_eq_eq_eq_not or_false false_or eu ai aj aP bh bZ cm aW bx aK bf cP bI
def CK (bs:List PB):AV:=if bs=[]then .ck else .sl (bs.map aI)
theorem Pw:CK []=.ck:=rfl
theorem CL {bs:List PB} (h:0<bs.length):CK bs=.sl (bs.map aI):=by
 unfold CK
 rw[if_neg (by rintro rfl;simp at h)]
theorem zU (cnt:Nat) (vG:1<=cnt) (hn:cnt<=1048576) (bs:List PB) (hb:∀b∈bs,b.a<cnt/\b.b<cnt) (hp:0<bs.length) (iK:bs.length<=1048576) (t:Int):au Tryz.prog 148 [.int .i64 cnt,.sl (bs.map aI),.int .i64 t] (.ib [.int .i64 (leads cnt (fc (bw t bs))).length,CK (eB (fc (bw t bs)) bs)]):=by
 refine au.body fF rfl fun hl n0=>?_
 clear hl
 (try((repeat(revert hN;revert N;apply Pn.out));refine wk @Nat.zero_add ?_;(repeat(refine Pn.mk ?_;intro N hN))))
 refine .inr (aA _ _ _ _ _ (fun r σ1 hq=>?_) (KU bs hp iK _))
 obtain⟨o,rfl,ho,OG,OH,VG⟩:=hq
 (try dsimp only at ho OG OH VG)
 refine hN _ _ ?_
 clear hN N
 (try((repeat(revert hN;revert N;apply Pn.out));refine wk @Nat.zero_add ?_;(repeat(refine Pn.mk ?_;intro N hN))))
 refine .inr (aA _ _ _ _ _ (fun r σ2 hq=>?_) (IL bs t iK o ⟨148000000,n0⟩ _ ho (by rw[VG _ aU];simp only[go_sem, ↓reduceIte,Nat.reduceEqDiff,Nat.reduceAdd,Nat.reduceSub,Nat.reduceLeDiff,reduceCtorEq]) aU aU (by rintro rfl;simp only at OG;omega)))
 obtain⟨rows,rfl,fI,hrt,xK,nu,Lq⟩:=hq
 (try dsimp only at nu Lq)
 refine hN _ _ ?_
 clear hN N
 have AL:=yE cnt vG hn (bw t bs) (fun b h=>hb b (zy h)) (by have:=oZ t bs;omega)
 have hL:=wP (bw t bs)
 have hz:∀x,eC (eu σ2.get) 6 [.int .i64 x,.own o 0 (bw t bs).length]=some [.int .i64 x,.sl ((bw t bs).map aI)]:=fun x=>by
  have:V.fz (eu σ2.get) 6 (.own o 0 (bw t bs).length)=some (.sl ((bw t bs).map aI)):=by
   rw[iW];simp only[eu,fI,Option.map_some,if_true]
   rw[if_pos ae,List.drop_zero,hrt,kF fun b=>B3 _ 4 b];rfl
  simp only[ai,aj,aP,this,Option.map_some]
 (try((repeat(revert hN;revert N;apply Pn.out));refine wk @Nat.zero_add ?_;(repeat(refine Pn.mk ?_;intro N hN))))
 refine .inl ⟨_,au.x AL (hz _),?_⟩
 refine hN _ _ ?_
 clear hN N
 generalize fc (bw t bs)=L at *
 have uN:((gJ cnt L).map C4).length=(leads cnt L).length:=by simp[gJ]
 have Xu:=kK cnt L
 have kB:(0:Int)<=(cnt:Int):=ae
 have sr:(cnt:Int)<=((16777216:Nat):Int):=ae
 have iP:List.replicate cnt [AV.int .i64 0]=eI (dJ cnt L 0 0) cnt:=by rw[zD,qG]
 (try((repeat(revert hN;revert N;apply Pn.out));refine wk (tw @kB (tw @sr (tw @Int.le_refl (tw @uN @iP)))) ?_;(repeat(refine Pn.mk ?_;intro N hN))))
 refine bz (fun n env st=>∃i:Nat,n=((leads cnt L).length)-i/\i<=((leads cnt L).length)/\env 27=.int .i64 (i:Int)/\st.get ⟨148002001,σ2.next+1⟩=some ⟨true,1,eI (dJ cnt L i 0) cnt⟩/\(σ2.next+1<st.next)) ((leads cnt L).length) ⟨0,ae,ae,sl (tw @iP @uN),sl (tw @iP @uN),aU⟩ ?_
 rintro n_c env_c st_c ⟨i,rfl,cle,c27,cg0,cI0⟩ iV
 have c1:=iV 1 (by kernel_rfl);have c8:=iV 8 (by kernel_rfl);have c9:=iV 9 (by kernel_rfl);have zR:=iV 25 (by kernel_rfl);have zS:=iV 26 (by kernel_rfl)
 simp only[go_sem, ↓reduceIte,Nat.reduceEqDiff,Nat.reduceAdd,Nat.reduceSub,Nat.reduceLeDiff,reduceCtorEq,iP,uN]at c1 c8 c9 zR zS
 clear iV
 by_cases hi:(i:Int)<((leads cnt L).length:Int)
 ·have gQ:∀{e:Env} {gg:Rows} {nx:Nat},(e 27=.int .i64 (IntKind.i64.wrap ((i:Int)+1)))->(gg ⟨148002001,σ2.next+1⟩=some ⟨true,1,eI (dJ cnt L (i+1) 0) cnt⟩)->(σ2.next+1<nx)->∃m0,m0<((leads cnt L).length)-i/\∃i:Nat,m0=((leads cnt L).length)-i/\i<=((leads cnt L).length)/\e 27=.int .i64 (i:Int)/\gg ⟨148002001,σ2.next+1⟩=some ⟨true,1,eI (dJ cnt L i 0) cnt⟩/\(σ2.next+1<nx):=fun x1 x2 x3=>⟨_,ae,i+1,rfl,ae,(by rw[x1,az ae]),x2,x3⟩
  have fU:i<(leads cnt L).length:=ae
  have jb:((gJ cnt L).map C4)[i]? =some (C4 (members cnt L (leads cnt L)[i])):=by simp[gJ,fU]
  have tz:(leads cnt L).getD i 0=(leads cnt L)[i]:=by simp[List.getD_eq_getElem?_getD,fU]
  have mA:∀m,dJ cnt L i m=fun x=>if de L x<i then de L x else if x∈(members cnt L (leads cnt L)[i]).take m then i else 0:=fun m=>by unfold dJ;rw[tz]
  have ud:=fun x (hx:x<cnt)=>vL hL (n:=cnt) (k:=x) (i:=i) hx fU
  have re:(members cnt L (leads cnt L)[i]).Nodup:=List.nodup_range.filter _
  have RS:∀x∈members cnt L (leads cnt L)[i],x<cnt:=fun x hx=>(mZ.1 hx).1
  have hMc:(members cnt L (leads cnt L)[i]).length<=cnt:=by
   have:=List.length_filter_le (fun k=>L k==(leads cnt L)[i]) (List.range cnt)
   simpa[members]using this
  generalize members cnt L (leads cnt L)[i]=M at *
  have Fq:(M.map eN).length=M.length:=by simp
  (try((repeat(revert hN;revert N;apply Pn.out));refine wk (tw @c27 (tw @cg0 (tw @c1 (tw @c8 (tw @c9 (tw @zR (tw @zS (tw @hi (tw @uN (tw @jb (tw @C4.eq_1 @Fq))))))))))) ?_;(repeat(refine Pn.mk ?_;intro N hN))))
  refine bz (fun n env st=>∃m:Nat,n=(M.length)-m/\m<=(M.length)/\env 34=.int .i64 (m:Int)/\st.get ⟨148002001,σ2.next+1⟩=some ⟨true,1,eI (dJ cnt L i m) cnt⟩/\(σ2.next+1<st.next)) (M.length) ⟨0,ae,ae,sl (tw @c27 (tw @cg0 (tw @c1 (tw @c8 (tw @c9 (tw @zR (tw @zS @Fq))))))),sl (tw @c27 (tw @cg0 (tw @c1 (tw @c8 (tw @c9 (tw @zR (tw @zS @Fq))))))),aU⟩ ?_
  rintro n_d env_d st_d ⟨m,rfl,dle,d34,dg0,dI0⟩ dfr
  have d1:=dfr 1 (by kernel_rfl);have d8:=dfr 8 (by kernel_rfl);have d9:=dfr 9 (by kernel_rfl);have d10:=dfr 10 (by kernel_rfl);have d25:=dfr 25 (by kernel_rfl);have d26:=dfr 26 (by kernel_rfl);have d27:=dfr 27 (by kernel_rfl);have d32:=dfr 32 (by kernel_rfl);have d33:=dfr 33 (by kernel_rfl)
  simp only[go_sem, ↓reduceIte,Nat.reduceEqDiff,Nat.reduceAdd,Nat.reduceSub,Nat.reduceLeDiff,reduceCtorEq,c27,cg0,c1,c8,c9,zR,zS,Fq]at d1 d8 d9 d10 d25 d26 d27 d32 d33
  clear dfr
  have tl:=iz (dJ cnt L i m) cnt
  by_cases hm:(m:Int)<(M.length:Int)
  ·have wS:∀{e:Env} {gg:Rows} {nx:Nat},(e 34=.int .i64 (IntKind.i64.wrap ((m:Int)+1)))->(gg ⟨148002001,σ2.next+1⟩=some ⟨true,1,eI (dJ cnt L i (m+1)) cnt⟩)->(σ2.next+1<nx)->∃m0,m0<(M.length)-m/\∃m:Nat,m0=(M.length)-m/\m<=(M.length)/\e 34=.int .i64 (m:Int)/\gg ⟨148002001,σ2.next+1⟩=some ⟨true,1,eI (dJ cnt L i m) cnt⟩/\(σ2.next+1<nx):=fun x1 x2 x3=>⟨_,ae,m+1,rfl,ae,(by rw[x1,az ae]),x2,x3⟩
   have Cf:m<M.length:=ae
   have uP:(M.map eN)[m]? =some (eN M[m]):=by simp[Cf]
   have yL:=RS _ (List.getElem_mem Cf)
   have Fw:(M[m]:Int)<(cnt:Int):=ae
   have HO:=gD (f:=dJ cnt L i m) yL
   have fj:(eI (dJ cnt L i m) cnt).set M[m] (eN i)=eI (dJ cnt L i (m+1)) cnt:=rL yL (by
    have h1:=(ud _ yL).1 (List.getElem_mem Cf)
    rw[mA]
    simp only[]
    rw[if_neg ae,if_pos (by rw[List.take_succ_eq_append_getElem Cf];exact List.mem_append_right _ (List.mem_singleton.2 rfl))]) fun x hx iN=>by
    rw[mA,mA]
    simp only[]
    rw[List.take_succ_eq_append_getElem Cf]
    simp only[List.mem_append,List.mem_singleton,iN,or_false]
   rw[eN]at fj HO
   generalize M[m]=xm at *
   (try((repeat(revert hN;revert N;apply Pn.out));refine wk (tw @d34 (tw @dg0 (tw @d1 (tw @d8 (tw @d9 (tw @d10 (tw @d25 (tw @d26 (tw @d27 (tw @d32 (tw @d33 (tw @hm (tw @hi (tw @uP (tw @Fq (tw @Fw (tw @HO (tw @tl (tw @fj @eN.eq_1))))))))))))))))))) ?_;(repeat(refine Pn.mk ?_;intro N hN))))
   refine wS ?_ ?_ aU
   all_goals simp only[go_sem, ↓reduceIte,Nat.reduceEqDiff,Nat.reduceAdd,Nat.reduceSub,Nat.reduceLeDiff,reduceCtorEq,d34,dg0,d1,d8,d9,d10,d25,d26,d27,d32,d33,fj]
  ·have gp:m=M.length:=ae
   subst gp
   have pr:eI (dJ cnt L i M.length) cnt=eI (dJ cnt L (i+1) 0) cnt:=jh fun x hx=>by
    rw[mA,List.take_length]
    simp only[dJ,List.take_zero,List.not_mem_nil,if_false]
    have h1:=ud x hx
    by_cases h2:de L x<i
    ·rw[if_pos h2,if_pos ae]
    ·rw[if_neg h2]
     by_cases h3:x∈M
     ·rw[if_pos h3,if_pos (by have:=h1.1 h3;omega),h1.1 h3]
     ·rw[if_neg h3,if_neg fun h4=>h3 (h1.2 ae)]
   (try((repeat(revert hN;revert N;apply Pn.out));refine wk (tw @d34 (tw @dg0 (tw @d1 (tw @d8 (tw @d9 (tw @d10 (tw @d25 (tw @d26 (tw @d27 (tw @d32 (tw @d33 (tw @hm (tw @hi (tw @uN @Fq)))))))))))))) ?_;(repeat(refine Pn.mk ?_;intro N hN))))
   refine gQ ?_ ?_ aU
   all_goals simp only[go_sem, ↓reduceIte,Nat.reduceEqDiff,Nat.reduceAdd,Nat.reduceSub,Nat.reduceLeDiff,reduceCtorEq,c27,cg0,c1,c8,c9,zR,zS,d34,dg0,d1,d8,d9,d10,d25,d26,d27,d32,d33,pr]
 have l5:i=(leads cnt L).length:=ae
 subst l5
 have l6:eI (dJ cnt L (leads cnt L).length 0) cnt=eI (de L) cnt:=jh fun x hx=>by rw[dJ,if_pos (lr hL hx)]
 rw[l6]at cg0
 have tl:=iz (de L) cnt
 have Xf:(bs.map aI).length=bs.length:=by simp
 (try((repeat(revert hN;revert N;apply Pn.out));refine wk (tw @c27 (tw @cg0 (tw @c1 (tw @c8 (tw @c9 (tw @zR (tw @zS (tw @hi (tw @uN @Xf))))))))) ?_;(repeat(refine Pn.mk ?_;intro N hN))))
 have Ul:σ2.next+1<st_c.next:=cI0
 refine bz (fun n env st=>∃j:Nat,n=(bs.length)-j/\j<=(bs.length)/\env 46=.int .i64 (j:Int)/\st.get ⟨148002001,σ2.next+1⟩=some ⟨true,1,eI (de L) cnt⟩/\(st_c.next<=st.next/\((eB L (bs.take j)=[]/\env 14=.ck)∨∃p:Id,env 14=.own p 0 (eB L (bs.take j)).length/\st.get p=some ⟨true,3,(eB L (bs.take j)).map aI⟩/\st_c.next<=p.bt/\p.bt<st.next/\0<(eB L (bs.take j)).length))) (bs.length) ⟨0,ae,ae,sl (tw @c27 (tw @cg0 (tw @c1 (tw @c8 (tw @c9 (tw @zR (tw @zS @Xf))))))),sl (tw @c27 (tw @cg0 (tw @c1 (tw @c8 (tw @c9 (tw @zR (tw @zS @Xf))))))),⟨aU,.inl ⟨rfl,by(simp only[go_sem, ↓reduceIte,Nat.reduceEqDiff,Nat.reduceAdd,Nat.reduceSub,Nat.reduceLeDiff,reduceCtorEq])⟩⟩⟩ ?_
 rintro n_f env_f st_f ⟨j,rfl,fle,f46,fg0,fI0⟩ ffr
 have f1:=ffr 1 (by kernel_rfl);have f8:=ffr 8 (by kernel_rfl);have f9:=ffr 9 (by kernel_rfl);have f44:=ffr 44 (by kernel_rfl);have f45:=ffr 45 (by kernel_rfl)
 simp only[go_sem, ↓reduceIte,Nat.reduceEqDiff,Nat.reduceAdd,Nat.reduceSub,Nat.reduceLeDiff,reduceCtorEq,c27,cg0,c1,c8,c9,zR,zS,Xf]at f1 f8 f9 f44 f45
 clear ffr
 obtain⟨Un,fO⟩:=fI0
 have LK:=dj (i:=⟨148002001,σ2.next+1⟩) (n:=st_f.next) aU
 have yK:=(oV L (bs.take j)).1
 rw[List.length_take]at yK
 by_cases hj:(j:Int)<(bs.length:Int)
 ·have uu:∀{e:Env} {gg:Rows} {nx:Nat},(e 46=.int .i64 (IntKind.i64.wrap ((j:Int)+1)))->(gg ⟨148002001,σ2.next+1⟩=some ⟨true,1,eI (de L) cnt⟩)->(st_c.next<=nx/\((eB L (bs.take (j+1))=[]/\e 14=.ck)∨∃p:Id,e 14=.own p 0 (eB L (bs.take (j+1))).length/\gg p=some ⟨true,3,(eB L (bs.take (j+1))).map aI⟩/\st_c.next<=p.bt/\p.bt<nx/\0<(eB L (bs.take (j+1))).length))->∃m0,m0<(bs.length)-j/\∃j:Nat,m0=(bs.length)-j/\j<=(bs.length)/\e 46=.int .i64 (j:Int)/\gg ⟨148002001,σ2.next+1⟩=some ⟨true,1,eI (de L) cnt⟩/\(st_c.next<=nx/\((eB L (bs.take j)=[]/\e 14=.ck)∨∃p:Id,e 14=.own p 0 (eB L (bs.take j)).length/\gg p=some ⟨true,3,(eB L (bs.take j)).map aI⟩/\st_c.next<=p.bt/\p.bt<nx/\0<(eB L (bs.take j)).length)):=fun x1 x2 x3=>⟨_,ae,j+1,rfl,ae,(by rw[x1,az ae]),x2,x3⟩
  have oi:j<bs.length:=ae
  have D8:(bs.map aI)[j]? =some (aI bs[j]):=by simp[oi]
  have Oq:=hb _ (List.getElem_mem oi)
  have hs:=CH L (bs.take j) bs[j]
  rw[<-List.take_succ_eq_append_getElem oi]at hs
  generalize bs[j]=b at *
  have hA:=gD (f:=de L) Oq.1
  have hB:=gD (f:=de L) Oq.2
  have iO:(b.a:Int)<(cnt:Int):=ae
  have gK:(b.b:Int)<(cnt:Int):=ae
  rw[eN]at hA hB
  have e1:(eB L (bs.take j)).length+1<=16777216:=ae
  have gp:((eB L (bs.take j)).map aI).length=(eB L (bs.take j)).length:=by simp
  by_cases he:de L b.a=de L b.b
  ·rw[if_pos he,List.append_nil]at hs
   have wI:decide ((de L b.a:Int)=(de L b.b:Int))=true:=decide_eq_true (by rw[he])
   (try((repeat(revert hN;revert N;apply Pn.out));refine wk (tw @f46 (tw @fg0 (tw @f1 (tw @f8 (tw @f9 (tw @f44 (tw @f45 (tw @hj (tw @D8 (tw @hA (tw @hB (tw @iO (tw @gK (tw @tl (tw @wI (tw @LK (tw @aI.eq_1 (tw @Bool.not_true @Bool.not_false)))))))))))))))))) ?_;(repeat(refine Pn.mk ?_;intro N hN))))
   refine uu ?_ ?_ (by(try dsimp only);exact⟨ae,by
    rw[hs]
    rcases fO with⟨h1,h2⟩|⟨p,h1,h2,h3,h4,h5⟩
    ·exact .inl ⟨h1,sd @h2⟩
    ·have Da:=dj h4
     exact .inr ⟨p,sd @h1,sd (tw @h2 @Da),h3,ae,h5⟩⟩)
   all_goals simp only[go_sem, ↓reduceIte,Nat.reduceEqDiff,Nat.reduceAdd,Nat.reduceSub,Nat.reduceLeDiff,reduceCtorEq,f46,fg0,f1,f8,f9,f44,f45,LK]
  ·rw[if_neg he]at hs
   have wI:decide ((de L b.a:Int)=(de L b.b:Int))=false:=decide_eq_false fun h=>he ae
   rcases fO with⟨h1,f14⟩|⟨p,f14,fg,RW,Lx,hp3⟩
   ·rw[h1]at hs
    (try((repeat(revert hN;revert N;apply Pn.out));refine wk (tw @f46 (tw @fg0 (tw @f1 (tw @f8 (tw @f9 (tw @f44 (tw @f45 (tw @f14 (tw @hj (tw @D8 (tw @hA (tw @hB (tw @iO (tw @gK (tw @tl (tw @wI (tw @LK (tw @aI.eq_1 (tw @Bool.not_true @Bool.not_false))))))))))))))))))) ?_;(repeat(refine Pn.mk ?_;intro N hN))))
    refine uu ?_ ?_ (by(try dsimp only);exact⟨ae,.inr ⟨⟨148017015,st_f.next+1+1+1⟩,by rw[hs];simp only[go_sem, ↓reduceIte,Nat.reduceEqDiff,Nat.reduceAdd,Nat.reduceSub,Nat.reduceLeDiff,reduceCtorEq,List.nil_append,List.length_cons,List.length_nil],by rw[hs];simp only[go_sem, ↓reduceIte,Nat.reduceEqDiff,Nat.reduceAdd,Nat.reduceSub,Nat.reduceLeDiff,reduceCtorEq,aI,List.nil_append,List.map_cons,List.map_nil],aU,aU,by rw[hs];simp⟩⟩)
    all_goals simp only[go_sem, ↓reduceIte,Nat.reduceEqDiff,Nat.reduceAdd,Nat.reduceSub,Nat.reduceLeDiff,reduceCtorEq,f46,fg0,f1,f8,f9,f44,f45,LK]
   ·have x1:=dp (a:=⟨148002001,σ2.next+1⟩) (b:=p) aU
    have Da:=dj Lx
    (try((repeat(revert hN;revert N;apply Pn.out));refine wk (tw @f46 (tw @fg0 (tw @f1 (tw @f8 (tw @f9 (tw @f44 (tw @f45 (tw @f14 (tw @fg (tw @hj (tw @D8 (tw @hA (tw @hB (tw @iO (tw @gK (tw @tl (tw @wI (tw @x1 (tw @Da (tw @LK (tw @e1 (tw @gp (tw @aI.eq_1 (tw @Bool.not_true @Bool.not_false)))))))))))))))))))))))) ?_;(repeat(refine Pn.mk ?_;intro N hN))))
    refine uu ?_ ?_ (by(try dsimp only);exact⟨ae,.inr ⟨⟨148017015,st_f.next+1+1+1⟩,by rw[hs,List.length_append];simp only[go_sem, ↓reduceIte,Nat.reduceEqDiff,Nat.reduceAdd,Nat.reduceSub,Nat.reduceLeDiff,reduceCtorEq,List.length_cons,List.length_nil],by rw[hs,List.map_append,List.map_cons,List.map_nil];simp only[go_sem, ↓reduceIte,Nat.reduceEqDiff,Nat.reduceAdd,Nat.reduceSub,Nat.reduceLeDiff,reduceCtorEq,aI],aU,aU,by rw[hs];simp⟩⟩)
    all_goals simp only[go_sem, ↓reduceIte,Nat.reduceEqDiff,Nat.reduceAdd,Nat.reduceSub,Nat.reduceLeDiff,reduceCtorEq,f46,fg0,f1,f8,f9,f44,f45,x1,LK]
 ·have iv:j=bs.length:=ae
  subst iv
  rw[List.take_length]at fO
  rcases fO with⟨h1,f14⟩|⟨p,f14,fg,RW,Lx,hp3⟩
  ·(try((repeat(revert hN;revert N;apply Pn.out));refine wk (tw @f46 (tw @fg0 (tw @f1 (tw @f8 (tw @f9 (tw @f44 (tw @f45 (tw @f14 (tw @hj @uN))))))))) ?_;(repeat(refine Pn.mk ?_;intro N hN))))
   refine jL (.inl rfl) (r1:=.int .i64 ((leads cnt L).length:Int)) (sd @Nat.zero_add) (by simp only[go_sem, ↓reduceIte,Nat.reduceEqDiff,Nat.reduceAdd,Nat.reduceSub,Nat.reduceLeDiff,reduceCtorEq];rfl) ?_
   simp only[fu,bF,cH,eK,lk,h1,Pw,Option.map_some]
  ·(try((repeat(revert hN;revert N;apply Pn.out));refine wk (tw @f46 (tw @fg0 (tw @f1 (tw @f8 (tw @f9 (tw @f44 (tw @f45 (tw @f14 (tw @hj @uN))))))))) ?_;(repeat(refine Pn.mk ?_;intro N hN))))
   refine jL (.inl rfl) (r1:=.int .i64 ((leads cnt L).length:Int)) (sd @Nat.zero_add) (by simp only[go_sem, ↓reduceIte,Nat.reduceEqDiff,Nat.reduceAdd,Nat.reduceSub,Nat.reduceLeDiff,reduceCtorEq];rfl) ?_
   have h1:gU st_f.get 5 (.own p 0 (eB L bs).length)=some (.sl ((eB L bs).map aI)):=eE (sz:=3) fg rfl fun b=>xE _ 3 b
   simp only[fu,bF,cH,eK,h1,CL hp3,Option.map_some]
theorem zT (cnt:Nat) (vG:1<=cnt) (hn:cnt<=1048576) (t:Int):au Tryz.prog 148 [.int .i64 cnt,.ck,.int .i64 t] (.ib [.int .i64 cnt,.ck]):=by
 refine au.body fF rfl fun hl n0=>?_
 clear hl
 have h1:au Tryz.prog 175 [.ck] .ck:=by
  refine au.body fF rfl fun hl n0=>?_
  clear hl
  (try((repeat(revert hN;revert N;apply Pn.out));refine wk @Nat.zero_add ?_;(repeat(refine Pn.mk ?_;intro N hN))))
  exact zp (.inl rfl) (r0:=.ck) (sd @Nat.zero_add) (lk _ _)
 have h2:au Tryz.prog 174 [.ck,.fn 176 [.dv [.int .i64 t]]] .ck:=by
  have C9:=(AU [] t (by simp)).cut mixed (.ck (.same _ .nil))
  refine au.body fF rfl fun hl n0=>?_
  clear hl
  (try((repeat(revert hN;revert N;apply Pn.out));refine wk @Nat.zero_add ?_;(repeat(refine Pn.mk ?_;intro N hN))))
  refine .inl ⟨_,au.x C9 (by simp only[ai,aj,aW,cP,aK,List.all_cons,List.all_nil,AV.cell,Bool.and_true,if_true,Option.map_some]),?_⟩
  refine hN _ _ ?_
  clear hN N
  have hd:decide (jx (fun b:PB=>decide (b.s<t)) []= -1)=true:=rfl
  (try((repeat(revert hN;revert N;apply Pn.out));refine wk @hd ?_;(repeat(refine Pn.mk ?_;intro N hN))))
  exact zp (.inl rfl) (r0:=.ck) (sd @Nat.zero_add) (lk _ _)
 have AL:=(yE cnt vG hn [] (fun b h=>by cases h) (by simp)).cut mixed (.same _ (.ck .nil))
 (repeat(first|((repeat(revert hN;revert N;apply Pn.out));refine wk @Nat.zero_add ?_;(repeat(refine Pn.mk ?_;intro N hN)))|((try apply Or.inl);refine⟨_,au.x (h1) (sd @Nat.zero_add),?_⟩;refine hN _ _ ?_;clear hN N)))
 refine .inl ⟨_,au.x h2 ?_,?_⟩
 ·have:V.fz (eu (bK (fun _=>none) ⟨148000000,n0⟩ ⟨true,1,[[.int .i64 t]]⟩)) 5 (.ptr ⟨148000000,n0⟩ 0 0)=some (.dv [.int .i64 t]):=nq (sz:=1) (rows:=[[.int .i64 t]]) (by simp[eu,bK]) rfl (by simp only[List.drop_zero,ai,aj,aP,Option.map_some])
  simp only[ai,aj,aW,cP,this,List.all_cons,List.all_nil,AV.cell,Bool.and_true,if_true,Option.map_some]
 refine hN _ _ ?_
 clear hN N
 have gK:fc ([]:List PB)=id:=rfl
 rw[gK]at AL
 have hL:kr id:=gK▸wP ([]:List PB)
 have Ur:(leads cnt id).length=cnt:=by rw[leads,List.filter_eq_self.2 (fun a _=>by simp)];simp
 generalize (id:Nat->Nat)=L at *
 have uN:((gJ cnt L).map C4).length=(leads cnt L).length:=by simp[gJ]
 have Xu:=kK cnt L
 have kB:(0:Int)<=(cnt:Int):=ae
 have sr:(cnt:Int)<=((16777216:Nat):Int):=ae
 have iP:List.replicate cnt [AV.int .i64 0]=eI (dJ cnt L 0 0) cnt:=by rw[zD,qG]
 (repeat(first|((repeat(revert hN;revert N;apply Pn.out));refine wk (tw @kB (tw @sr (tw @Int.le_refl (tw @uN @iP)))) ?_;(repeat(refine Pn.mk ?_;intro N hN)))|((try apply Or.inl);refine⟨_,au.x (AL) (sd (tw @kB (tw @sr (tw @Int.le_refl (tw @uN @iP))))),?_⟩;refine hN _ _ ?_;clear hN N)))
 refine bz (fun n env st=>∃i:Nat,n=((leads cnt L).length)-i/\i<=((leads cnt L).length)/\env 27=.int .i64 (i:Int)/\st.get ⟨148002001,n0+1+1⟩=some ⟨true,1,eI (dJ cnt L i 0) cnt⟩/\(n0+1+1<st.next)) ((leads cnt L).length) ⟨0,ae,ae,sl (tw @iP @uN),sl (tw @iP @uN),aU⟩ ?_
 rintro n_c env_c st_c ⟨i,rfl,cle,c27,cg0,cI0⟩ iV
 have c1:=iV 1 (by kernel_rfl);have c8:=iV 8 (by kernel_rfl);have c9:=iV 9 (by kernel_rfl);have zR:=iV 25 (by kernel_rfl);have zS:=iV 26 (by kernel_rfl)
 simp only[go_sem, ↓reduceIte,Nat.reduceEqDiff,Nat.reduceAdd,Nat.reduceSub,Nat.reduceLeDiff,reduceCtorEq,iP,uN]at c1 c8 c9 zR zS
 clear iV
 by_cases hi:(i:Int)<((leads cnt L).length:Int)
 ·have gQ:∀{e:Env} {gg:Rows} {nx:Nat},(e 27=.int .i64 (IntKind.i64.wrap ((i:Int)+1)))->(gg ⟨148002001,n0+1+1⟩=some ⟨true,1,eI (dJ cnt L (i+1) 0) cnt⟩)->(n0+1+1<nx)->∃m0,m0<((leads cnt L).length)-i/\∃i:Nat,m0=((leads cnt L).length)-i/\i<=((leads cnt L).length)/\e 27=.int .i64 (i:Int)/\gg ⟨148002001,n0+1+1⟩=some ⟨true,1,eI (dJ cnt L i 0) cnt⟩/\(n0+1+1<nx):=fun x1 x2 x3=>⟨_,ae,i+1,rfl,ae,(by rw[x1,az ae]),x2,x3⟩
  have fU:i<(leads cnt L).length:=ae
  have jb:((gJ cnt L).map C4)[i]? =some (C4 (members cnt L (leads cnt L)[i])):=by simp[gJ,fU]
  have tz:(leads cnt L).getD i 0=(leads cnt L)[i]:=by simp[List.getD_eq_getElem?_getD,fU]
  have mA:∀m,dJ cnt L i m=fun x=>if de L x<i then de L x else if x∈(members cnt L (leads cnt L)[i]).take m then i else 0:=fun m=>by unfold dJ;rw[tz]
  have ud:=fun x (hx:x<cnt)=>vL hL (n:=cnt) (k:=x) (i:=i) hx fU
  have re:(members cnt L (leads cnt L)[i]).Nodup:=List.nodup_range.filter _
  have RS:∀x∈members cnt L (leads cnt L)[i],x<cnt:=fun x hx=>(mZ.1 hx).1
  have hMc:(members cnt L (leads cnt L)[i]).length<=cnt:=by
   have:=List.length_filter_le (fun k=>L k==(leads cnt L)[i]) (List.range cnt)
   simpa[members]using this
  generalize members cnt L (leads cnt L)[i]=M at *
  have Fq:(M.map eN).length=M.length:=by simp
  (try((repeat(revert hN;revert N;apply Pn.out));refine wk (tw @c27 (tw @cg0 (tw @c1 (tw @c8 (tw @c9 (tw @zR (tw @zS (tw @hi (tw @uN (tw @jb (tw @C4.eq_1 @Fq))))))))))) ?_;(repeat(refine Pn.mk ?_;intro N hN))))
  refine bz (fun n env st=>∃m:Nat,n=(M.length)-m/\m<=(M.length)/\env 34=.int .i64 (m:Int)/\st.get ⟨148002001,n0+1+1⟩=some ⟨true,1,eI (dJ cnt L i m) cnt⟩/\(n0+1+1<st.next)) (M.length) ⟨0,ae,ae,sl (tw @c27 (tw @cg0 (tw @c1 (tw @c8 (tw @c9 (tw @zR (tw @zS @Fq))))))),sl (tw @c27 (tw @cg0 (tw @c1 (tw @c8 (tw @c9 (tw @zR (tw @zS @Fq))))))),aU⟩ ?_
  rintro n_d env_d st_d ⟨m,rfl,dle,d34,dg0,dI0⟩ dfr
  have d1:=dfr 1 (by kernel_rfl);have d8:=dfr 8 (by kernel_rfl);have d9:=dfr 9 (by kernel_rfl);have d10:=dfr 10 (by kernel_rfl);have d25:=dfr 25 (by kernel_rfl);have d26:=dfr 26 (by kernel_rfl);have d27:=dfr 27 (by kernel_rfl);have d32:=dfr 32 (by kernel_rfl);have d33:=dfr 33 (by kernel_rfl)
  simp only[go_sem, ↓reduceIte,Nat.reduceEqDiff,Nat.reduceAdd,Nat.reduceSub,Nat.reduceLeDiff,reduceCtorEq,c27,cg0,c1,c8,c9,zR,zS,Fq]at d1 d8 d9 d10 d25 d26 d27 d32 d33
  clear dfr
  have tl:=iz (dJ cnt L i m) cnt
  by_cases hm:(m:Int)<(M.length:Int)
  ·have wS:∀{e:Env} {gg:Rows} {nx:Nat},(e 34=.int .i64 (IntKind.i64.wrap ((m:Int)+1)))->(gg ⟨148002001,n0+1+1⟩=some ⟨true,1,eI (dJ cnt L i (m+1)) cnt⟩)->(n0+1+1<nx)->∃m0,m0<(M.length)-m/\∃m:Nat,m0=(M.length)-m/\m<=(M.length)/\e 34=.int .i64 (m:Int)/\gg ⟨148002001,n0+1+1⟩=some ⟨true,1,eI (dJ cnt L i m) cnt⟩/\(n0+1+1<nx):=fun x1 x2 x3=>⟨_,ae,m+1,rfl,ae,(by rw[x1,az ae]),x2,x3⟩
   have Cf:m<M.length:=ae
   have uP:(M.map eN)[m]? =some (eN M[m]):=by simp[Cf]
   have yL:=RS _ (List.getElem_mem Cf)
   have Fw:(M[m]:Int)<(cnt:Int):=ae
   have HO:=gD (f:=dJ cnt L i m) yL
   have fj:(eI (dJ cnt L i m) cnt).set M[m] (eN i)=eI (dJ cnt L i (m+1)) cnt:=rL yL (by
    have h1:=(ud _ yL).1 (List.getElem_mem Cf)
    rw[mA]
    simp only[]
    rw[if_neg ae,if_pos (by rw[List.take_succ_eq_append_getElem Cf];exact List.mem_append_right _ (List.mem_singleton.2 rfl))]) fun x hx iN=>by
    rw[mA,mA]
    simp only[]
    rw[List.take_succ_eq_append_getElem Cf]
    simp only[List.mem_append,List.mem_singleton,iN,or_false]
   rw[eN]at fj HO
   generalize M[m]=xm at *
   (try((repeat(revert hN;revert N;apply Pn.out));refine wk (tw @d34 (tw @dg0 (tw @d1 (tw @d8 (tw @d9 (tw @d10 (tw @d25 (tw @d26 (tw @d27 (tw @d32 (tw @d33 (tw @hm (tw @hi (tw @uP (tw @Fq (tw @Fw (tw @HO (tw @tl (tw @fj @eN.eq_1))))))))))))))))))) ?_;(repeat(refine Pn.mk ?_;intro N hN))))
   refine wS ?_ ?_ aU
   all_goals simp only[go_sem, ↓reduceIte,Nat.reduceEqDiff,Nat.reduceAdd,Nat.reduceSub,Nat.reduceLeDiff,reduceCtorEq,d34,dg0,d1,d8,d9,d10,d25,d26,d27,d32,d33,fj]
  ·have gp:m=M.length:=ae
   subst gp
   have pr:eI (dJ cnt L i M.length) cnt=eI (dJ cnt L (i+1) 0) cnt:=jh fun x hx=>by
    rw[mA,List.take_length]
    simp only[dJ,List.take_zero,List.not_mem_nil,if_false]
    have h1:=ud x hx
    by_cases h2:de L x<i
    ·rw[if_pos h2,if_pos ae]
    ·rw[if_neg h2]
     by_cases h3:x∈M
     ·rw[if_pos h3,if_pos (by have:=h1.1 h3;omega),h1.1 h3]
     ·rw[if_neg h3,if_neg fun h4=>h3 (h1.2 ae)]
   (try((repeat(revert hN;revert N;apply Pn.out));refine wk (tw @d34 (tw @dg0 (tw @d1 (tw @d8 (tw @d9 (tw @d10 (tw @d25 (tw @d26 (tw @d27 (tw @d32 (tw @d33 (tw @hm (tw @hi (tw @uN @Fq)))))))))))))) ?_;(repeat(refine Pn.mk ?_;intro N hN))))
   refine gQ ?_ ?_ aU
   all_goals simp only[go_sem, ↓reduceIte,Nat.reduceEqDiff,Nat.reduceAdd,Nat.reduceSub,Nat.reduceLeDiff,reduceCtorEq,c27,cg0,c1,c8,c9,zR,zS,d34,dg0,d1,d8,d9,d10,d25,d26,d27,d32,d33,pr]
 have l5:i=(leads cnt L).length:=ae
 subst l5
 have l6:eI (dJ cnt L (leads cnt L).length 0) cnt=eI (de L) cnt:=jh fun x hx=>by rw[dJ,if_pos (lr hL hx)]
 rw[l6]at cg0
 have tl:=iz (de L) cnt
 (try((repeat(revert hN;revert N;apply Pn.out));refine wk (tw @c27 (tw @cg0 (tw @c1 (tw @c8 (tw @c9 (tw @zR (tw @zS (tw @hi @uN)))))))) ?_;(repeat(refine Pn.mk ?_;intro N hN))))
 refine bz (fun n env st=>∃j:Nat,n=(0)-j/\j<=(0)/\env 46=.int .i64 (j:Int)/\env 14=.ck) (0) ⟨0,ae,ae,sl (tw @c27 (tw @cg0 (tw @c1 (tw @c8 (tw @c9 (tw @zR @zS)))))),sl (tw @c27 (tw @cg0 (tw @c1 (tw @c8 (tw @c9 (tw @zR @zS))))))⟩ ?_
 rintro n_f env_f st_f ⟨j,rfl,fle,f46,f14⟩ ffr
 have f8:=ffr 8 (by kernel_rfl);have f44:=ffr 44 (by kernel_rfl);have f45:=ffr 45 (by kernel_rfl)
 simp only[go_sem, ↓reduceIte,Nat.reduceEqDiff,Nat.reduceAdd,Nat.reduceSub,Nat.reduceLeDiff,reduceCtorEq,c27,cg0,c1,c8,c9,zR,zS]at f8 f44 f45
 clear ffr
 have hj:¬(j:Int)<((0:Nat):Int):=ae
 (try((repeat(revert hN;revert N;apply Pn.out));refine wk (tw @f46 (tw @f14 (tw @f8 (tw @f44 (tw @f45 (tw @hj @uN)))))) ?_;(repeat(refine Pn.mk ?_;intro N hN))))
 refine jL (.inl rfl) (r1:=.int .i64 ((leads cnt L).length:Int)) (r2:=.ck) (sd @Nat.zero_add) (sd @Nat.zero_add) ?_
 simp only[fu,bF,cH,eK,lk,Ur,Option.map_some]
theorem BV (cnt:Nat) (vG:1<=cnt) (hn:cnt<=1048576) (bs:List PB) (hb:∀b∈bs,b.a<cnt/\b.b<cnt) (iK:bs.length<=1048576) (t:Int):au Tryz.prog 148 [.int .i64 cnt,CK bs,.int .i64 t] (.ib [.int .i64 (leads cnt (fc (bw t bs))).length,CK (eB (fc (bw t bs)) bs)]):=by
 cases bs with
 |nil=>
  have h:=zT cnt vG hn t
  have Ur:(leads cnt (fc (bw t []))).length=cnt:=by
   show(leads cnt id).length=cnt
   rw[leads,List.filter_eq_self.2 (fun a _=>by simp)];simp
  rw[Ur]
  exact h
 |cons b r=>
  rw[CL (by simp)]
  exact zU cnt vG hn (b::r) hb (by simp) iK t
end Go.Proofs.YtiabgllilcfheaaGreat.V

namespace Go.Proofs.YtiabgllilcfheaaGreat.V
open Go.RowKit
attribute [local irreducible] er wpOps fY Call
attribute [local go_sem] aF fC eR fN fK du upd cw K.av cQ AV.cells AV.cell rowOf rowsOf part ld rowAt bK cq dH dX gG bP dd eh fJ fa dw ea db da dM dP bV bd cU bU cW cV dV eb dZ cR bY dc dY bQ aD cY cF gF bD cL bW aY dn bj dI AV.undef bH bJ dQ dW dL dK cK ef eo cz ee ec cX cZ List.getD_cons_zero List.getD_cons_succ List.getD_nil List.all_cons List.all_nil Bool.and_true Bool.true_and Bool.and_self Bool.not_true Bool.not_false Option.map_some Option.map_none Option.bind_some Option.bind_none List.length_cons List.length_nil List.take_succ_cons List.take_zero List.take_nil List.drop_succ_cons List.drop_zero List.drop_nil List.head?_cons List.map_cons List.map_nil List.getElem?_cons_zero List.getElem?_cons_succ List.cons_append List.nil_append List.append_nil List.length_map List.set_cons_zero List.set_cons_succ Nat.reduceMul eq_self Int.toNat_natCast Int.natCast_nonneg and_self true_and and_true decide_true decide_false Bool.false_eq_true Nat.zero_add Nat.add_zero List.contains_cons List.contains_nil Bool.or_false Bool.false_or beq_self_eq_true Nat.reduceBEq ne_eq not_true_eq_false not_false_eq_true Id.mk.injEq false_and and_false Nat.reduceLT Int.reduceLE Int.reduceLT Int.reduceToNat Int.reduceNeg Int.reduceAdd Nat.le_refl List.length_append beq_true beq_false Bool.not_eq_eq_eq_not or_false false_or eu ai aj aP bh bZ cm aW bx aK bf cP bI
attribute [local go_sem] Ij
section
attribute [-go_sem] dH
theorem O9 (n:Nat) (hn:n<=1048576):au Tryz.prog 200 [.int .u64 1,.int .u64 n] (.ib [.int .u64 0,.int .u64 n]):=by
 refine au.body fF rfl fun hl n0=>?_
 clear hl
 have b1:(BitVec.ofInt 64 (n:Int)&&& BitVec.ofInt 64 4294967295).toNat=n:=by
  rw[BitVec.toNat_and]
  have e1:(BitVec.ofInt 64 (n:Int)).toNat=n:=by rw[BitVec.toNat_ofInt];omega
  have e2:(BitVec.ofInt 64 4294967295).toNat=2 ^ 32-1:=by decide
  rw[e1,e2]
  exact Nat.and_two_pow_sub_one_of_lt_two_pow ae
 have zn:IntKind.u64.wrap (n:Int)=n:=by rw[IntKind.wrap_u64];omega
 have i1:dH .and .u64 (n:Int) 4294967295=some (.int .u64 n):=by
  show some (AV.int .u64 (IntKind.u64.wrap (((BitVec.ofInt 64 (n:Int)&&& BitVec.ofInt 64 4294967295).toNat:Nat):Int)))= _
  rw[b1,zn]
 have i2:dH .and .u64 1 4294967295=some (.int .u64 1):=rfl
 have i3:dH .and .u64 0 4294967295=some (.int .u64 0):=rfl
 have i4:dH .mul .u64 1 (n:Int)=some (.int .u64 n):=by simp only[dH,Int.one_mul,zn]
 have i5:dH .mul .u64 0 (n:Int)=some (.int .u64 0):=by simp only[dH,Int.zero_mul];rfl
 have i6:dH .mul .u64 1 0=some (.int .u64 0):=rfl
 have i7:dH .mul .u64 0 0=some (.int .u64 0):=rfl
 have i8:dH .add .u64 0 0=some (.int .u64 0):=rfl
 have a3:Int.fdiv 1 (2 ^ min 32 64)=0:=by decide
 have a4:Int.fdiv (n:Int) (2 ^ min 32 64)=0:=by
  rw[Int.fdiv_eq_ediv_of_nonneg _ (by decide)]
  have h32:(2:Int) ^ min 32 64=4294967296:=by decide
  exact Int.ediv_eq_zero_of_lt ae ae
 have z1:Int.fdiv 0 (2 ^ min 32 64)=0:=by decide
 (try((repeat(revert hN;revert N;apply Pn.out));refine wk (tw @i1 (tw @i2 (tw @i3 (tw @i4 (tw @i5 (tw @i6 (tw @i7 (tw @i8 (tw @a3 (tw @a4 @z1)))))))))) ?_;(repeat(refine Pn.mk ?_;intro N hN))))
 refine jL (.inl rfl) (r1:=.int .u64 0) (r2:=.int .u64 n) (sd @Nat.zero_add) (sd @Nat.zero_add) ?_
 simp only[fu,bF,cH,eK,Option.map_some]
end
theorem Wi (n:Nat) (hn:n<=1048576):au Tryz.prog 198 [.int .u64 1,.int .u64 n] (.ib [.int .u64 0,.int .u64 n]):=by
 refine au.body fF rfl fun hl n0=>?_
 clear hl
 have h:=O9 n hn
 (repeat(first|((repeat(revert hN;revert N;apply Pn.out));refine wk @Nat.zero_add ?_;(repeat(refine Pn.mk ?_;intro N hN)))|((try apply Or.inl);refine⟨_,au.x (h) (sd @Nat.zero_add),?_⟩;refine hN _ _ ?_;clear hN N)))
 refine jL (.inl rfl) (r1:=.int .u64 0) (r2:=.int .u64 n) (sd @Nat.zero_add) (sd @Nat.zero_add) ?_
 simp only[fu,bF,cH,eK,Option.map_some]
theorem MA (cnt:Nat) (vG:1<=cnt) (hn:cnt<=1048576) (v:Int) (x:Id) (σ:ax) (hx:σ.get x=some ⟨true,1,[[.int .i64 v]]⟩) (R9:x.bt<σ.next):
  Call Tryz.prog 195 [.own x 0 1,.int .i64 cnt] σ fun r σ'=>∃o:Id,r=.own o 0 cnt/\σ'.get o=some ⟨true,1,List.replicate cnt [.int .i64 v]⟩/\σ.next<=o.bt/\o.bt<σ'.next/\∀i:Id,i.bt<σ.next->σ'.get i=σ.get i:=by
 refine ij fF rfl fun hl=>?_
 clear hl
 have h:=Wi cnt hn
 have w1:IntKind.u64.wrap (cnt:Int)=cnt:=by rw[IntKind.wrap_u64];omega
 have w2:IntKind.i64.wrap (cnt:Int)=cnt:=M1 ae
 have w0:IntKind.u64.wrap ((1:Nat):Int)=1:=by decide
 have g1:¬(cnt:Int)<0:=ae
 have g2:¬(9223372036854775807:Int)<cnt:=ae
 have kB:(0:Int)<=(cnt:Int):=ae
 have sr:(cnt:Int)<=((16777216:Nat):Int):=ae
 have NM:=dj R9
 have xK:(List.replicate cnt [AV.int .i64 0]).length=cnt:=List.length_replicate
 have m1:min 1 cnt=1:=ae
 (repeat(first|((repeat(revert hN;revert N;apply Pn.out));refine wk (tw @w0 (tw @w1 (tw @w2 (tw @g1 (tw @g2 (tw @kB (tw @sr (tw @Int.le_refl (tw @Nat.le_refl (tw @hx (tw @NM (tw @xK @m1)))))))))))) ?_;(repeat(refine Pn.mk ?_;intro N hN)))|((try apply Or.inl);refine⟨_,au.x (h) (sd (tw @w0 (tw @w1 (tw @w2 (tw @g1 (tw @g2 (tw @kB (tw @sr (tw @Int.le_refl (tw @Nat.le_refl (tw @hx (tw @NM (tw @xK @m1))))))))))))),?_⟩;refine hN _ _ ?_;clear hN N)))
 refine bz (fun m env st=>∃k:Nat,m=cnt-k/\1<=k/\k<=cnt/\env 8=.int .i64 (k:Int)/\st.get ⟨195006002,σ.next+1+1+1+1⟩=some ⟨true,1,List.replicate k [.int .i64 v]++List.replicate (cnt-k) [.int .i64 0]⟩/\σ.next+4<st.next/\∀i:Id,i.bt<σ.next->st.get i=σ.get i) (cnt-1) ⟨1,rfl,Nat.le_refl _,vG,by(simp only[go_sem, ↓reduceIte,Nat.reduceEqDiff,Nat.reduceAdd,Nat.reduceSub,Nat.reduceLeDiff,reduceCtorEq,m1])<;>rfl,?_,aU,fun i hi=>?_⟩ ?_
 ·simp only[go_sem, ↓reduceIte,Nat.reduceEqDiff,Nat.reduceAdd,Nat.reduceSub,Nat.reduceLeDiff,reduceCtorEq]
  rw[List.drop_replicate];rfl
 ·have Gi:=dj hi
  simp only[go_sem, ↓reduceIte,Nat.reduceEqDiff,Nat.reduceAdd,Nat.reduceSub,Nat.reduceLeDiff,reduceCtorEq,Gi]
 rintro m env_b st_b ⟨k,rfl,tC,ue,b8,bg,bn,eW⟩ bkp
 have b7:=bkp 7 (by kernel_rfl)
 simp only[go_sem, ↓reduceIte,Nat.reduceEqDiff,Nat.reduceAdd,Nat.reduceSub,Nat.reduceLeDiff,reduceCtorEq]at b7
 clear bkp
 have VY:(List.replicate k [AV.int .i64 v]++List.replicate (cnt-k) [AV.int .i64 0]).length=cnt:=by simp;omega
 by_cases hk:(k:Int)<(cnt:Int)
 ·have iR:k<cnt:=ae
  have xk:(k:Int)<=(cnt:Int):=ae
  have hw:IntKind.i64.wrap ((k:Int)+((min k (cnt-k):Nat):Int))=((k+min k (cnt-k):Nat):Int):=by rw[cD ae];omega
  have nE:List.take k (List.replicate k [AV.int .i64 v]++List.replicate (cnt-k) [AV.int .i64 0])=List.replicate k [AV.int .i64 v]:=List.take_left' (by simp)
  have eP:(List.replicate k [AV.int .i64 v]).all (fun c=>c.length==1&&c.all AV.cell)=true:=List.all_eq_true.2 fun c hc=>by rw[List.eq_of_mem_replicate hc];rfl
  have hlr:(List.replicate k [AV.int .i64 v]).length=k:=List.length_replicate
  have ZH:k+(cnt-k)=cnt:=ae
  have yJ:List.replicate k [AV.int .i64 v]++List.take (min k (cnt-k)) (List.replicate k [AV.int .i64 v])++List.drop (k+min k (cnt-k)) (List.replicate k [AV.int .i64 v]++List.replicate (cnt-k) [AV.int .i64 0])=List.replicate (k+min k (cnt-k)) [AV.int .i64 v]++List.replicate (cnt-(k+min k (cnt-k))) [AV.int .i64 0]:=by
   rw[List.take_replicate,List.drop_append,List.drop_of_length_le (by simp),List.nil_append,hlr,List.drop_replicate,List.replicate_append_replicate]
   congr 2
   ·omega
   ·omega
  (try((repeat(revert hN;revert N;apply Pn.out));refine wk (tw @b7 (tw @b8 (tw @bg (tw @VY (tw @hk (tw @xk (tw @ue (tw @hw (tw @iR (tw @Nat.sub_zero (tw @nE (tw @eP (tw @hlr (tw @ZH (tw @Nat.le_refl @yJ))))))))))))))) ?_;(repeat(refine Pn.mk ?_;intro N hN))))
  refine⟨_,?_,k+min k (cnt-k),rfl,ae,ae,sd @hw,sd @yJ,aU,fun i hi=>?_⟩
  ·omega
  ·have Gi:=dj hi
   have:=eW i hi
   simp only[go_sem, ↓reduceIte,Nat.reduceEqDiff,Nat.reduceAdd,Nat.reduceSub,Nat.reduceLeDiff,reduceCtorEq,Gi,this]
 ·have mU:k=cnt:=ae
  subst mU
  (try((repeat(revert hN;revert N;apply Pn.out));refine wk (tw @b7 (tw @b8 (tw @bg (tw @VY @hk)))) ?_;(repeat(refine Pn.mk ?_;intro N hN))))
  refine gN (.inl rfl) (vs:=[.own ⟨195006002,σ.next+1+1+1+1⟩ 0 k]) (sd @Nat.zero_add) ⟨⟨195006002,σ.next+1+1+1+1⟩,rfl,by simp only[go_sem, ↓reduceIte,Nat.reduceEqDiff,Nat.reduceAdd,Nat.reduceSub,Nat.reduceLeDiff,reduceCtorEq,bg];simp,aU,aU,fun i hi=>eW i hi⟩
end Go.Proofs.YtiabgllilcfheaaGreat.V

namespace Go.Proofs.YtiabgllilcfheaaGreat.V
open Go.RowKit
attribute [local irreducible] er wpOps fY Call
attribute [local go_sem] aF fC eR fN fK du upd cw K.av cQ AV.cells AV.cell rowOf rowsOf part ld rowAt bK cq dH dX gG bP dd eh fJ fa dw ea db da dM dP bV bd cU bU cW cV dV eb dZ cR bY dc dY bQ aD cY cF gF bD cL bW aY dn bj dI AV.undef bH bJ dQ dW dL dK cK ef eo cz ee ec cX cZ List.getD_cons_zero List.getD_cons_succ List.getD_nil List.all_cons List.all_nil Bool.and_true Bool.true_and Bool.and_self Bool.not_true Bool.not_false Option.map_some Option.map_none Option.bind_some Option.bind_none List.length_cons List.length_nil List.take_succ_cons List.take_zero List.take_nil List.drop_succ_cons List.drop_zero List.drop_nil List.head?_cons List.map_cons List.map_nil List.getElem?_cons_zero List.getElem?_cons_succ List.cons_append List.nil_append List.append_nil List.length_map List.set_cons_zero List.set_cons_succ Nat.reduceMul eq_self Int.toNat_natCast Int.natCast_nonneg and_self true_and and_true decide_true decide_false Bool.false_eq_true Nat.zero_add Nat.add_zero List.contains_cons List.contains_nil Bool.or_false Bool.false_or beq_self_eq_true Nat.reduceBEq ne_eq not_true_eq_false not_false_eq_true Id.mk.injEq false_and and_false Nat.reduceLT Int.reduceLE Int.reduceLT Int.reduceToNat Int.reduceNeg Int.reduceAdd Nat.le_refl List.length_append beq_true beq_false Bool.not_eq_eq_eq_not or_false false_or eu ai aj aP bh bZ cm aW bx aK bf cP bI
def mm (R:Nat->Id) (n k:Nat):List (List AV):=(List.range k).map fun i=>[.own (R i) 0 n]
theorem lv (R:Nat->Id) (n k:Nat):(mm R n k).length=k:=by simp[mm]
theorem uE {R:Nat->Id} {n k i:Nat} (h:i<k):(mm R n k)[i]? =some [.own (R i) 0 n]:=by simp[mm,h]
theorem wb (R:Nat->Id) (n k:Nat):mm R n (k+1)=mm R n k++[[.own (R k) 0 n]]:=by simp[mm,List.range_succ]
def Ai (c:Nat->Nat->Int) (n:Nat):List (List AV):=(List.range n).map fun i=>[.sl (eT (c i) n)]
theorem Fa {c:Nat->Nat->Int} {n i:Nat} (h:i<n):(Ai c n)[i]? =some [.sl (eT (c i) n)]:=by simp[Ai,h]
theorem zC (c:Nat->Nat->Int) (n:Nat):(Ai c n).length=n:=by simp[Ai]
structure Ir (X o1 o2:Id) (R1 R2:Nat->Id) (n nb:Nat):Prop where
 sx:X.site=178001001
 s1:o1.site=178004008
 s2:o2.site=178005008
 XP:∀i,i<n->(R1 i).site=178004006
 QB:∀i,i<n->(R2 i).site=178005006
 i1:∀i j,i<n->j<n->R1 i=R1 j->i=j
 i2:∀i j,i<n->j<n->R2 i=R2 j->i=j
 vx:X.bt<nb
 v1:o1.bt<nb
 v2:o2.bt<nb
 Z2:∀i,i<n->(R1 i).bt<nb
 WE:∀i,i<n->(R2 i).bt<nb
structure pW (g:Rows) (X o1 o2:Id) (R1 R2:Nat->Id) (n:Nat) (c f:Nat->Nat->Int):Prop where
 x:g X=some ⟨true,2,[[.own o1 0 n,.own o2 0 n]]⟩
 t1:g o1=some ⟨true,1,mm R1 n n⟩
 t2:g o2=some ⟨true,1,mm R2 n n⟩
 r1:∀i,i<n->g (R1 i)=some ⟨true,1,eT (c i) n⟩
 r2:∀i,i<n->g (R2 i)=some ⟨true,1,eT (f i) n⟩
theorem qh {f:Nat->Nat->Int} {a b:Nat} {d:Int} {n:Nat} (hb:b<n):(eT (f a) n).set b (aJ (f a b+d))=eT (bump f a b d a) n:=mo hb (by simp[bump]) fun i _ hi=>by simp[bump,hi]
theorem lh {f:Nat->Nat->Int} {a b i:Nat} {d:Int} (h:i≠a):bump f a b d i=f i:=by funext v;simp[bump,h]
theorem pW.add {g g':Rows} {X o1 o2:Id} {R1 R2:Nat->Id} {n nb:Nat} {c f:Nat->Nat->Int} (I:Ir X o1 o2 R1 R2 n nb) (h:pW g X o1 o2 R1 R2 n c f) (b:PB) (ha:b.a<n) (hb:b.b<n) (hA:b.a≠b.b->g' (R1 b.a)=some ⟨true,1,eT (bump c b.a b.b b.s b.a) n⟩) (hB:g' (R1 b.b)=some ⟨true,1,eT (pC c b b.b) n⟩) (hf:∀i:Id,i.bt<nb->(i=R1 b.a)=False->(i=R1 b.b)=False->g' i=g i):pW g' X o1 o2 R1 R2 n (pC c b) f:=by
 have ne:∀{i:Id} {s:Nat},i.site=s->(s==178004006)=false->∀a,a<n->(i=R1 a)=False:=fun {i s} hi hs a ha=>by
  simp only[eq_iff_iff,iff_false]
  rintro rfl
  rw[I.XP a ha]at hi
  subst hi
  simp at hs
 refine⟨(hf _ I.vx (ne I.sx (by decide) _ ha) (ne I.sx (by decide) _ hb)).trans h.x,(hf _ I.v1 (ne I.s1 (by decide) _ ha) (ne I.s1 (by decide) _ hb)).trans h.t1,(hf _ I.v2 (ne I.s2 (by decide) _ ha) (ne I.s2 (by decide) _ hb)).trans h.t2,fun i hi=>?_,fun i hi=>(hf _ (I.WE i hi) (ne (I.QB i hi) (by decide) _ ha) (ne (I.QB i hi) (by decide) _ hb)).trans (h.r2 i hi)⟩
 by_cases NB:i=b.b
 ·subst NB;exact hB
 ·by_cases NA:i=b.a
  ·subst NA
   rw[hA NB,pC,lh NB]
  ·rw[pC,lh NB,lh NA,hf _ (I.Z2 i hi) (by simp only[eq_iff_iff,iff_false];exact fun he=>NA (I.i1 i _ hi ha he)) (by simp only[eq_iff_iff,iff_false];exact fun he=>NB (I.i1 i _ hi hb he))]
   exact h.r1 i hi
def mO (n:Nat) (c f:Nat->Nat->Int):List AV:=[.sl (Ai c n),.sl (Ai f n)]
theorem Ie {g:Rows} {R:Nat->Id} {n k:Nat} {c:Nat->Nat->Int} (h:∀i,i<k->g (R i)=some ⟨true,1,eT (c i) n⟩) (m:Nat):eZ (eu g) (m+3) (mm R n k)=some ((List.range k).map fun i=>[.sl (eT (c i) n)]):=by
 induction k with
 |zero=>rw[show mm R n 0=[]from rfl,eZ];rfl
 |succ k ih=>
  have e1:V.fz (eu g) (m+3) (.own (R k) 0 n)=some (.sl (eT (c k) n)):=by
   rw[iW];simp only[eu,h k ae,Option.map_some,if_true]
   rw[if_pos (by rw[eH];omega),List.drop_zero,List.take_of_length_le (by rw[eH];omega),CR];rfl
  have app:∀(xs ys:List (List AV)) (XU WS:List (List AV)),eZ (eu g) (m+3) xs=some XU->eZ (eu g) (m+3) ys=some WS->eZ (eu g) (m+3) (xs++ys)=some (XU++WS):=by
   intro xs
   induction xs with
   |nil=>intro ys XU WS h1 h2;rw[eZ]at h1;cases h1;exact h2
   |cons a xs ih2=>
    intro ys XU WS h1 h2
    rw[eZ]at h1
    rw[List.cons_append,eZ]
    cases ha:eC (eu g) (m+3) a with
    |none=>simp[ha]at h1
    |some a'=>
     cases hb:eZ (eu g) (m+3) xs with
     |none=>simp[ha,hb]at h1
     |some b'=>
      simp[ha,hb]at h1
      subst h1
      rw[ih2 ys b' WS hb h2];rfl
  rw[wb,List.range_succ,List.map_append]
  refine app _ _ _ _ (ih fun i hi=>h i ae) ?_
  rw[eZ,ai,aj,e1,eZ];rfl
theorem pW.fz {g:Rows} {X o1 o2:Id} {R1 R2:Nat->Id} {n:Nat} {c f:Nat->Nat->Int} (h:pW g X o1 o2 R1 R2 n c f):V.fz (eu g) 6 (.ptr X 0 0)=some (.dv (mO n c f)):=by
 refine nq (sz:=2) (rows:=[[.own o1 0 n,.own o2 0 n]]) (by simp[eu,h.x]) rfl ?_
 have e1:V.fz (eu g) 5 (.own o1 0 n)=some (.sl (Ai c n)):=by
  rw[iW];simp only[eu,h.t1,Option.map_some,if_true]
  rw[if_pos (by rw[lv];omega),List.drop_zero,List.take_of_length_le (by rw[lv];omega)]
  rw[show eZ _ 4 _=some (Ai c n)from Ie h.r1 1];rfl
 have e2:V.fz (eu g) 5 (.own o2 0 n)=some (.sl (Ai f n)):=by
  rw[iW];simp only[eu,h.t2,Option.map_some,if_true]
  rw[if_pos (by rw[lv];omega),List.drop_zero,List.take_of_length_le (by rw[lv];omega)]
  rw[show eZ _ 4 _=some (Ai f n)from Ie h.r2 1];rfl
 simp only[List.drop_zero,ai,aj,e1,e2,mO,Option.map_some]
theorem Re (n:Nat) (c f:Nat->Nat->Int) (u v:Nat) (hu:u<n) (hv:v<n):au Tryz.prog 196 [.dv (mO n c f),.int .i64 u,.int .i64 v] (.bool (decide (f u v<c u v))):=by
 refine au.body fF rfl fun hl n0=>?_
 clear hl
 have h1:=Fa (c:=c) hu
 have h2:=Fa (c:=f) hu
 have h3:=eQ (f:=c u) hv
 have h4:=eQ (f:=f u) hv
 have hui:(u:Int)<(n:Int):=ae
 have Gi:(v:Int)<(n:Int):=ae
 have l1:=zC c n
 have l2:=zC f n
 have l3:=eH (c u) n
 have l4:=eH (f u) n
 rw[aJ]at h3 h4
 (try((repeat(revert hN;revert N;apply Pn.out));refine wk (tw @mO.eq_1 (tw @h1 (tw @h2 (tw @h3 (tw @h4 (tw @hui (tw @Gi (tw @l1 (tw @l2 (tw @l3 @l4)))))))))) ?_;(repeat(refine Pn.mk ?_;intro N hN))))
 exact cu (b:=decide (f u v<c u v)) (.inl rfl) (sd @Nat.zero_add) rfl
theorem J3 (n:Nat):List.replicate n [AV.int .i64 0]=eT (fun _=>0) n:=by
 refine List.ext_getElem? fun i=>?_
 by_cases h:i<n
 ·rw[eQ h,List.getElem?_replicate,if_pos h];rfl
 ·rw[List.getElem?_eq_none (by simp;omega),List.getElem?_eq_none (by rw[eH];omega)]
theorem CO {i j:Id} {s t:Nat} (hi:i.site=s) (hj:j.site=t) (h:(s==t)=false):(i=j)=False/\(j=i)=False:=by
 constructor<;>(simp only[eq_iff_iff,iff_false];rintro rfl;rw[hi]at hj;subst hj;simp at h)
theorem ER (cnt:Nat) (vG:1<=cnt) (hn:cnt<=1048576) (bs:List PB) (hb:∀b∈bs,b.a<cnt/\b.b<cnt) (ev:∀b∈bs,0<=b.s/\b.s<=4) (iK:bs.length<=1048576) (σ:ax):
  Call Tryz.prog 178 [.int .i64 cnt,.sl (bs.map aI)] σ fun r σ'=>∃X o1 o2 R1 R2,r=.ptr X 0 0/\Ir X o1 o2 R1 R2 cnt σ'.next/\σ.next<=σ'.next/\pW σ'.get X o1 o2 R1 R2 cnt (mi bs) (fun _ _=>0)/\∀i:Id,i.bt<σ.next->σ'.get i=σ.get i:=by
 refine ij fF rfl fun hl=>?_
 clear hl
 (try((repeat(revert hN;revert N;apply Pn.out));refine wk @Nat.zero_add ?_;(repeat(refine Pn.mk ?_;intro N hN))))
 obtain⟨X,hX⟩:∃X:Id,X=⟨178001001,σ.next+1⟩:=⟨_,rfl⟩
 obtain⟨R1,YL⟩:∃R:Nat->Id,R=fun k=>⟨178004006,σ.next+3+4*k+1⟩:=⟨_,rfl⟩
 obtain⟨R2,YM⟩:∃R:Nat->Id,R=fun k=>⟨178005006,σ.next+3+4*k+2⟩:=⟨_,rfl⟩
 have sX:X.site=178001001:=by rw[hX]
 have vX:X.bt=σ.next+1:=by rw[hX]
 have s1:∀k,(R1 k).site=178004006:=fun k=>by rw[YL]
 have s2:∀k,(R2 k).site=178005006:=fun k=>by rw[YM]
 have v1:∀k,(R1 k).bt=σ.next+3+4*k+1:=fun k=>by rw[YL]
 have v2:∀k,(R2 k).bt=σ.next+3+4*k+2:=fun k=>by rw[YM]
 have kB:(0:Int)<=(cnt:Int):=ae
 have sr:(cnt:Int)<=((16777216:Nat):Int):=ae
 have hz:=J3 cnt
 have t1:mm R1 cnt 0=[]:=rfl
 have t2:mm R2 cnt 0=[]:=rfl
 refine bz (fun n env st=>∃k:Nat,n=(cnt)-k/\k<=(cnt)/\env 11=.int .i64 (k:Int)/\env 5=(.ptr X 0 0)/\(st.next=σ.next+3+4*k/\(∀i:Id,i.bt<σ.next->st.get i=σ.get i)/\∀j,j<k->st.get (R1 j)=some ⟨true,1,eT (fun _=>0) cnt⟩/\st.get (R2 j)=some ⟨true,1,eT (fun _=>0) cnt⟩)/\((k=0/\st.get X=some ⟨true,2,[[.ck,.ck]]⟩)∨∃o1 o2:Id,o1.site=178004008/\o2.site=178005008/\o1.bt<st.next/\o2.bt<st.next/\σ.next<=o1.bt/\σ.next<=o2.bt/\st.get X=some ⟨true,2,[[.own o1 0 k,.own o2 0 k]]⟩/\st.get o1=some ⟨true,1,mm R1 cnt k⟩/\st.get o2=some ⟨true,1,mm R2 cnt k⟩)) (cnt) ⟨0,ae,ae,sl @hX,sl @hX,⟨rfl,fun i hi=>by(have Gi:=dj hi);simp only[go_sem, ↓reduceIte,Nat.reduceEqDiff,Nat.reduceAdd,Nat.reduceSub,Nat.reduceLeDiff,reduceCtorEq,Gi],fun j hj=>absurd hj (Nat.not_lt_zero j)⟩,.inl ⟨rfl,by rw[hX];simp only[go_sem, ↓reduceIte,Nat.reduceEqDiff,Nat.reduceAdd,Nat.reduceSub,Nat.reduceLeDiff,reduceCtorEq]⟩⟩ ?_
 rintro n_a env_a st_a ⟨k,rfl,ale,a11,a5,oh,aI1⟩ eJ
 have a0:=eJ 0 (by kernel_rfl);have a1:=eJ 1 (by kernel_rfl);have rQ:=eJ 10 (by kernel_rfl)
 simp only[go_sem, ↓reduceIte,Nat.reduceEqDiff,Nat.reduceAdd,Nat.reduceSub,Nat.reduceLeDiff,reduceCtorEq,hX]at a0 a1 rQ
 clear eJ
 obtain⟨anx,eJ,aR⟩:=oh
 have wX:=dj (i:=X) (n:=st_a.next) ae
 by_cases hk:(k:Int)<(cnt:Int)
 ·have dx:∀{e:Env} {gg:Rows} {nx:Nat},(e 11=.int .i64 (IntKind.i64.wrap ((k:Int)+1)))->(e 5=(.ptr X 0 0))->(nx=σ.next+3+4*(k+1)/\(∀i:Id,i.bt<σ.next->gg i=σ.get i)/\∀j,j<(k+1)->gg (R1 j)=some ⟨true,1,eT (fun _=>0) cnt⟩/\gg (R2 j)=some ⟨true,1,eT (fun _=>0) cnt⟩)->(((k+1)=0/\gg X=some ⟨true,2,[[.ck,.ck]]⟩)∨∃o1 o2:Id,o1.site=178004008/\o2.site=178005008/\o1.bt<nx/\o2.bt<nx/\σ.next<=o1.bt/\σ.next<=o2.bt/\gg X=some ⟨true,2,[[.own o1 0 (k+1),.own o2 0 (k+1)]]⟩/\gg o1=some ⟨true,1,mm R1 cnt (k+1)⟩/\gg o2=some ⟨true,1,mm R2 cnt (k+1)⟩)->∃m0,m0<(cnt)-k/\∃k:Nat,m0=(cnt)-k/\k<=(cnt)/\e 11=.int .i64 (k:Int)/\e 5=(.ptr X 0 0)/\(nx=σ.next+3+4*k/\(∀i:Id,i.bt<σ.next->gg i=σ.get i)/\∀j,j<k->gg (R1 j)=some ⟨true,1,eT (fun _=>0) cnt⟩/\gg (R2 j)=some ⟨true,1,eT (fun _=>0) cnt⟩)/\((k=0/\gg X=some ⟨true,2,[[.ck,.ck]]⟩)∨∃o1 o2:Id,o1.site=178004008/\o2.site=178005008/\o1.bt<nx/\o2.bt<nx/\σ.next<=o1.bt/\σ.next<=o2.bt/\gg X=some ⟨true,2,[[.own o1 0 k,.own o2 0 k]]⟩/\gg o1=some ⟨true,1,mm R1 cnt k⟩/\gg o2=some ⟨true,1,mm R2 cnt k⟩):=fun x1 x2 x3 x4=>⟨_,ae,k+1,rfl,ae,(by rw[x1,az ae]),x2,x3,x4⟩
  have iR:k<cnt:=ae
  have tC:R1 k=⟨178004006,st_a.next+1⟩:=by rw[YL,anx]
  have ue:R2 k=⟨178005006,st_a.next+1+1⟩:=by rw[YM,anx]
  have xL:mm R1 cnt (k+1)=mm R1 cnt k++[[.own ⟨178004006,st_a.next+1⟩ 0 cnt]]:=by rw[wb,tC]
  have Ef:mm R2 cnt (k+1)=mm R2 cnt k++[[.own ⟨178005006,st_a.next+1+1⟩ 0 cnt]]:=by rw[wb,ue]
  rcases aI1 with⟨rfl,US⟩|⟨o1,o2,so1,so2,vo1,WB,vn1,vn2,US,ag1,ag2⟩
  ·(try((repeat(revert hN;revert N;apply Pn.out));refine wk (tw @a11 (tw @a5 (tw @a0 (tw @a1 (tw @rQ (tw @hk (tw @wX (tw @US (tw @kB (tw @sr (tw @Int.le_refl @hz))))))))))) ?_;(repeat(refine Pn.mk ?_;intro N hN))))
   refine dx ?_ ?_ (by
    (try dsimp only)
    refine⟨ae,fun i hi=>?_,fun j hj=>?_⟩
    ·have q1:=dj (i:=i) (n:=st_a.next) ae
     have q2:=dp (a:=i) (b:=X) ae
     have:=eJ i hi
     simp only[go_sem, ↓reduceIte,Nat.reduceEqDiff,Nat.reduceAdd,Nat.reduceSub,Nat.reduceLeDiff,reduceCtorEq,q1,q2,this]
    ·by_cases AN:j=0
     ·subst AN
      rw[tC,ue]
      have q1:=je sX (b:=178004006) (v:=st_a.next+1) (by decide)
      have q2:=je sX (b:=178005006) (v:=st_a.next+1+1) (by decide)
      simp only[go_sem, ↓reduceIte,Nat.reduceEqDiff,Nat.reduceAdd,Nat.reduceSub,Nat.reduceLeDiff,reduceCtorEq,q1,q2]
     ·obtain⟨r1,r2⟩:=aR j ae
      have q1:=dj (i:=R1 j) (n:=st_a.next) (by rw[v1];omega)
      have q2:=dj (i:=R2 j) (n:=st_a.next) (by rw[v2];omega)
      have q3:=CO (s1 j) sX (by decide)
      have q4:=CO (s2 j) sX (by decide)
      constructor
      ·simp only[go_sem, ↓reduceIte,Nat.reduceEqDiff,Nat.reduceAdd,Nat.reduceSub,Nat.reduceLeDiff,reduceCtorEq,q1,q3,r1]
      ·simp only[go_sem, ↓reduceIte,Nat.reduceEqDiff,Nat.reduceAdd,Nat.reduceSub,Nat.reduceLeDiff,reduceCtorEq,q2,q4,r2]) (.inr ⟨⟨178004008,st_a.next+1⟩,⟨178005008,st_a.next+1+1⟩,rfl,rfl,aU,aU,aU,aU,sd @wX,by rw[xL,t1];simp only[go_sem, ↓reduceIte,Nat.reduceEqDiff,Nat.reduceAdd,Nat.reduceSub,Nat.reduceLeDiff,reduceCtorEq,wX,List.nil_append],by rw[Ef,t2];simp only[go_sem, ↓reduceIte,Nat.reduceEqDiff,Nat.reduceAdd,Nat.reduceSub,Nat.reduceLeDiff,reduceCtorEq,wX,List.nil_append]⟩)
   all_goals simp only[go_sem, ↓reduceIte,Nat.reduceEqDiff,Nat.reduceAdd,Nat.reduceSub,Nat.reduceLeDiff,reduceCtorEq,a11,a5,a0,a1,rQ,wX]
  ·have l1:=lv R1 cnt k
   have l2:=lv R2 cnt k
   have e1:k+1<=16777216:=ae
   have w1:=dj vo1
   have w2:=dj WB
   have x1:=CO sX so1 (by decide)
   have x2:=CO sX so2 (by decide)
   have x3:=CO so1 so2 (by decide)
   (try((repeat(revert hN;revert N;apply Pn.out));refine wk (tw @a11 (tw @a5 (tw @a0 (tw @a1 (tw @rQ (tw @hk (tw @wX (tw @US (tw @ag1 (tw @ag2 (tw @l1 (tw @l2 (tw @e1 (tw @w1 (tw @w2 (tw @x1 (tw @x2 (tw @x3 (tw @kB (tw @sr (tw @Int.le_refl @hz))))))))))))))))))))) ?_;(repeat(refine Pn.mk ?_;intro N hN))))
   refine dx ?_ ?_ (by
    (try dsimp only)
    refine⟨ae,fun i hi=>?_,fun j hj=>?_⟩
    ·have q1:=dj (i:=i) (n:=st_a.next) ae
     have q2:=dp (a:=i) (b:=X) ae
     have q3:=dp (a:=i) (b:=o1) ae
     have q4:=dp (a:=i) (b:=o2) ae
     have:=eJ i hi
     simp only[go_sem, ↓reduceIte,Nat.reduceEqDiff,Nat.reduceAdd,Nat.reduceSub,Nat.reduceLeDiff,reduceCtorEq,q1,q2,this,q3,q4]
    ·by_cases AN:j=k
     ·subst AN
      rw[tC,ue]
      have q1:=je sX (b:=178004006) (v:=st_a.next+1) (by decide)
      have q2:=je sX (b:=178005006) (v:=st_a.next+1+1) (by decide)
      simp only[go_sem, ↓reduceIte,Nat.reduceEqDiff,Nat.reduceAdd,Nat.reduceSub,Nat.reduceLeDiff,reduceCtorEq,q1,q2,w1,w2]
     ·obtain⟨r1,r2⟩:=aR j ae
      have q1:=dj (i:=R1 j) (n:=st_a.next) (by rw[v1];omega)
      have q2:=dj (i:=R2 j) (n:=st_a.next) (by rw[v2];omega)
      have q3:=CO (s1 j) sX (by decide)
      have q4:=CO (s2 j) sX (by decide)
      have q5:=CO (s1 j) so1 (by decide)
      have q6:=CO (s1 j) so2 (by decide)
      have q7:=CO (s2 j) so1 (by decide)
      have q8:=CO (s2 j) so2 (by decide)
      constructor
      ·simp only[go_sem, ↓reduceIte,Nat.reduceEqDiff,Nat.reduceAdd,Nat.reduceSub,Nat.reduceLeDiff,reduceCtorEq,q1,q3,r1,q5,q6]
      ·simp only[go_sem, ↓reduceIte,Nat.reduceEqDiff,Nat.reduceAdd,Nat.reduceSub,Nat.reduceLeDiff,reduceCtorEq,q2,q4,r2,q7,q8]) (.inr ⟨⟨178004008,st_a.next+1⟩,⟨178005008,st_a.next+1+1⟩,rfl,rfl,aU,aU,aU,aU,sd @wX,by rw[xL];simp only[go_sem, ↓reduceIte,Nat.reduceEqDiff,Nat.reduceAdd,Nat.reduceSub,Nat.reduceLeDiff,reduceCtorEq,wX,w1,w2],by rw[Ef];simp only[go_sem, ↓reduceIte,Nat.reduceEqDiff,Nat.reduceAdd,Nat.reduceSub,Nat.reduceLeDiff,reduceCtorEq,wX,w1,w2]⟩)
   all_goals simp only[go_sem, ↓reduceIte,Nat.reduceEqDiff,Nat.reduceAdd,Nat.reduceSub,Nat.reduceLeDiff,reduceCtorEq,a11,a5,a0,a1,rQ,wX,w1,w2,x1,x2,x3]
 have mU:cnt=k:=ae
 subst mU
 rcases aI1 with⟨h0,_⟩|⟨o1,o2,so1,so2,vo1,WB,vn1,vn2,US,ag1,ag2⟩
 ·omega
 (try((repeat(revert hN;revert N;apply Pn.out));refine wk (tw @a11 (tw @a5 (tw @a0 (tw @a1 (tw @rQ @hk))))) ?_;(repeat(refine Pn.mk ?_;intro N hN))))
 have I:Ir X o1 o2 R1 R2 cnt st_a.next:=⟨sX,so1,so2,fun i _=>s1 i,fun i _=>s2 i,fun i j _ _ h=>by have:=v1 i;rw[h,v1]at this;omega,fun i j _ _ h=>by have:=v2 i;rw[h,v2]at this;omega,ae,vo1,WB,fun i hi=>by rw[v1];omega,fun i hi=>by rw[v2];omega⟩
 refine bz (fun n env st=>∃i:Nat,n=(bs.length)-i/\i<=(bs.length)/\env 38=.int .i64 (i:Int)/\(st_a.next<=st.next/\(∀x:Id,x.bt<σ.next->st.get x=σ.get x)/\pW st.get X o1 o2 R1 R2 cnt (mi (bs.take i)) (fun _ _=>0))) (bs.length) ⟨0,ae,ae,sl (tw @a11 (tw @a5 (tw @a0 (tw @a1 @rQ)))),⟨aU,eJ,US,ag1,ag2,fun j hj=>(aR j hj).1,fun j hj=>(aR j hj).2⟩⟩ ?_
 rintro n_b env_b st_b ⟨i,rfl,ble,b38,bI0⟩ eW
 have b0:=eW 0 (by kernel_rfl);have b1:=eW 1 (by kernel_rfl);have b5:=eW 5 (by kernel_rfl);have Ub:=eW 36 (by kernel_rfl);have Uc:=eW 37 (by kernel_rfl)
 simp only[go_sem, ↓reduceIte,Nat.reduceEqDiff,Nat.reduceAdd,Nat.reduceSub,Nat.reduceLeDiff,reduceCtorEq,a11,a5,a0,a1,rQ]at b0 b1 b5 Ub Uc
 clear eW
 obtain⟨bn,QZ,bM⟩:=bI0
 by_cases hi:(i:Int)<(bs.length:Int)
 ·have fh:∀{e:Env} {gg:Rows} {nx:Nat},(e 38=.int .i64 (IntKind.i64.wrap ((i:Int)+1)))->(st_a.next<=nx/\(∀x:Id,x.bt<σ.next->gg x=σ.get x)/\pW gg X o1 o2 R1 R2 cnt (mi (bs.take (i+1))) (fun _ _=>0))->∃m0,m0<(bs.length)-i/\∃i:Nat,m0=(bs.length)-i/\i<=(bs.length)/\e 38=.int .i64 (i:Int)/\(st_a.next<=nx/\(∀x:Id,x.bt<σ.next->gg x=σ.get x)/\pW gg X o1 o2 R1 R2 cnt (mi (bs.take i)) (fun _ _=>0)):=fun x1 x2=>⟨_,ae,i+1,rfl,ae,(by rw[x1,az ae]),x2⟩
  have fU:i<bs.length:=ae
  have jb:(bs.map aI)[i]? =some (aI bs[i]):=by simp[fU]
  have gK:=hb _ (List.getElem_mem fU)
  have hsi:=ev _ (List.getElem_mem fU)
  have rY:mi (bs.take (i+1))=pC (mi (bs.take i)) bs[i]:=by rw[List.take_succ_eq_append_getElem fU,GN]
  have kC:=CG (bs.take i) (fun _ _=>0) (fun b hb=>(ev b (List.mem_of_mem_take hb)).1) (fun _ _=>Int.le_refl _)
  have hle:=room_le (bs.take i) (fun _ _=>0) 0 (fun b hb=>(ev b (List.mem_of_mem_take hb)).2) (fun _ _=>Int.le_refl _) (Int.le_refl _)
  rw[List.length_take]at hle
  have ik:(bs.take i).foldl pC (fun _ _=>0)=mi (bs.take i):=rfl
  rw[ik]at kC hle
  generalize mi (bs.take i)=c at *
  generalize bs[i]=b at *
  obtain⟨ha,vz⟩:=gK
  have gA:=uE (R:=R1) (n:=cnt) ha
  have gB:=uE (R:=R1) (n:=cnt) vz
  have rA:=bM.r1 _ ha
  have rB:=bM.r1 _ vz
  have cA:=eQ (f:=c b.a) vz
  have cB:=eQ (f:=c b.b) ha
  have sA:=qh (f:=c) (a:=b.a) (d:=b.s) vz
  have gX:=bM.x
  have g1:=bM.t1
  have iO:(b.a:Int)<(cnt:Int):=ae
  have gK:(b.b:Int)<(cnt:Int):=ae
  have qX:=dj (i:=X) (n:=st_b.next) ae
  have q1:=dj (i:=o1) (n:=st_b.next) ae
  have qA:=dj (i:=R1 b.a) (n:=st_b.next) (by rw[v1];omega)
  have qB:=dj (i:=R1 b.b) (n:=st_b.next) (by rw[v1];omega)
  have xA:=CO sX (s1 b.a) (by decide)
  have xB:=CO sX (s1 b.b) (by decide)
  have yA:=CO so1 (s1 b.a) (by decide)
  have yB:=CO so1 (s1 b.b) (by decide)
  have l1:=lv R1 cnt cnt
  have lA:=eH (c b.a) cnt
  have lB:=eH (c b.b) cnt
  have hAB:=hle b.a b.b
  have hBA:=hle b.b b.a
  have gAB:=kC b.a b.b
  have gBA:=kC b.b b.a
  have wA:IntKind.i64.wrap (c b.a b.b+b.s)=c b.a b.b+b.s:=cD ae
  by_cases qz:b.a=b.b
  ·obtain⟨ba,bb,s⟩:=b
   dsimp only at *
   subst qz
   have R0:=qh (f:=bump c ba ba s) (a:=ba) (b:=ba) (d:=s) (n:=cnt) ha
   have YR:=eQ (f:=bump c ba ba s ba) ha
   have hv:bump c ba ba s ba ba=c ba ba+s:=by simp[bump]
   have lC:=eH (bump c ba ba s ba) cnt
   have wB:IntKind.i64.wrap (c ba ba+s+s)=c ba ba+s+s:=cD ae
   rw[hv]at R0 YR
   have vD:pC c ⟨ba,ba,s⟩ ba=bump (bump c ba ba s) ba ba s ba:=rfl
   rw[aJ]at cA sA R0 YR
   (try((repeat(revert hN;revert N;apply Pn.out));refine wk (tw @b38 (tw @b0 (tw @b1 (tw @b5 (tw @Ub (tw @Uc (tw @hi (tw @jb (tw @aI.eq_1 (tw @gA (tw @rA (tw @cA (tw @sA (tw @gX (tw @g1 (tw @iO (tw @qX (tw @q1 (tw @qA (tw @xA (tw @yA (tw @l1 (tw @lA (tw @wA (tw @R0 (tw @YR (tw @lC @wB))))))))))))))))))))))))))) ?_;(repeat(refine Pn.mk ?_;intro N hN))))
   exact fh (sd (tw @b38 (tw @b0 (tw @b1 (tw @b5 (tw @Ub @Uc)))))) (by
    (try dsimp only)
    refine⟨ae,fun x hx=>?_,?_⟩
    ·have p1:=dj (i:=x) (n:=st_b.next) ae
     have p2:=dp (a:=x) (b:=R1 ba) (by rw[v1];omega)
     have:=QZ x hx
     simp only[go_sem, ↓reduceIte,Nat.reduceEqDiff,Nat.reduceAdd,Nat.reduceSub,Nat.reduceLeDiff,reduceCtorEq,p1,p2,this]
    ·rw[rY]
     refine bM.add I ⟨ba,ba,s⟩ ha ha (fun h=>absurd rfl h) ?_ fun x hx h1 h2=>?_
     ·rw[vD]
      simp only[go_sem, ↓reduceIte,Nat.reduceEqDiff,Nat.reduceAdd,Nat.reduceSub,Nat.reduceLeDiff,reduceCtorEq]
     ·have p1:=dj (i:=x) (n:=st_b.next) ae
      (try dsimp only at h2)
      simp only[go_sem, ↓reduceIte,Nat.reduceEqDiff,Nat.reduceAdd,Nat.reduceSub,Nat.reduceLeDiff,reduceCtorEq,p1,h2])
  ·have iN:(R1 b.a=R1 b.b)=False:=by simp only[eq_iff_iff,iff_false];exact fun h=>qz (I.i1 _ _ ha vz h)
   have Lv:(R1 b.b=R1 b.a)=False:=by simp only[eq_iff_iff,iff_false];exact fun h=>qz (I.i1 _ _ ha vz h.symm)
   have RU:bump c b.a b.b b.s b.b=c b.b:=lh fun h=>qz h.symm
   have R0:=qh (f:=bump c b.a b.b b.s) (a:=b.b) (b:=b.a) (d:=b.s) (n:=cnt) ha
   rw[RU]at R0
   have wB:IntKind.i64.wrap (c b.b b.a+b.s)=c b.b b.a+b.s:=cD ae
   have vD:pC c b b.b=bump (bump c b.a b.b b.s) b.b b.a b.s b.b:=rfl
   rw[aJ]at cA cB sA R0
   (try((repeat(revert hN;revert N;apply Pn.out));refine wk (tw @b38 (tw @b0 (tw @b1 (tw @b5 (tw @Ub (tw @Uc (tw @hi (tw @jb (tw @aI.eq_1 (tw @gA (tw @gB (tw @rA (tw @rB (tw @cA (tw @cB (tw @sA (tw @gX (tw @g1 (tw @iO (tw @gK (tw @qX (tw @q1 (tw @qA (tw @qB (tw @xA (tw @xB (tw @yA (tw @yB (tw @l1 (tw @lA (tw @lB (tw @wA (tw @R0 (tw @wB (tw @iN @Lv))))))))))))))))))))))))))))))))))) ?_;(repeat(refine Pn.mk ?_;intro N hN))))
   exact fh (sd (tw @b38 (tw @b0 (tw @b1 (tw @b5 (tw @Ub @Uc)))))) (by
    (try dsimp only)
    refine⟨ae,fun x hx=>?_,?_⟩
    ·have p1:=dj (i:=x) (n:=st_b.next) ae
     have p2:=dp (a:=x) (b:=R1 b.b) (by rw[v1];omega)
     have p3:=dp (a:=x) (b:=R1 b.a) (by rw[v1];omega)
     have:=QZ x hx
     simp only[go_sem, ↓reduceIte,Nat.reduceEqDiff,Nat.reduceAdd,Nat.reduceSub,Nat.reduceLeDiff,reduceCtorEq,p1,p2,p3,this]
    ·rw[rY]
     refine bM.add I b ha vz (fun h=>?_) ?_ fun x hx h1 h2=>?_
     ·simp only[go_sem, ↓reduceIte,Nat.reduceEqDiff,Nat.reduceAdd,Nat.reduceSub,Nat.reduceLeDiff,reduceCtorEq,iN]
     ·rw[vD]
      simp only[go_sem, ↓reduceIte,Nat.reduceEqDiff,Nat.reduceAdd,Nat.reduceSub,Nat.reduceLeDiff,reduceCtorEq,iN]
     ·have p1:=dj (i:=x) (n:=st_b.next) ae
      simp only[go_sem, ↓reduceIte,Nat.reduceEqDiff,Nat.reduceAdd,Nat.reduceSub,Nat.reduceLeDiff,reduceCtorEq,p1,h1,h2])
 ·have l5:i=bs.length:=ae
  subst l5
  rw[List.take_length]at bM
  (try((repeat(revert hN;revert N;apply Pn.out));refine wk (tw @b38 (tw @b0 (tw @b1 (tw @b5 (tw @Ub (tw @Uc @hi)))))) ?_;(repeat(refine Pn.mk ?_;intro N hN))))
  exact gN (.inl rfl) (vs:=[.ptr X 0 0]) (sd @Nat.zero_add) ⟨X,o1,o2,R1,R2,rfl,⟨I.sx,I.s1,I.s2,I.XP,I.QB,I.i1,I.i2,by have:=I.vx;(try dsimp only);omega,by have:=I.v1;(try dsimp only);omega,by have:=I.v2;(try dsimp only);omega,fun j hj=>by have:=I.Z2 j hj;(try dsimp only);omega,fun j hj=>by have:=I.WE j hj;(try dsimp only);omega⟩,aU,bM,QZ⟩
end Go.Proofs.YtiabgllilcfheaaGreat.V

namespace Go.Proofs.YtiabgllilcfheaaGreat.V
structure Bq (n:Nat) (c f:Nat->Nat->Int) (x:Nat) (par:Nat->Int) (Q:List Nat) (i:Nat):Prop where
 nodup:Q.Nodup
 lt:∀v∈Q,v<n
 root:par x=(x:Int)
 mem:x∈Q
 iff:∀v,v<n->(0<=par v↔v∈Q)
 up:∀v∈Q,v≠x->∃u,u∈Q/\par v=(u:Int)/\Q.idxOf u<Q.idxOf v/\f u v<c u v
 done:∀j (_:j<i) (hl:j<Q.length) (v:Nat),v<n->f Q[j] v<c Q[j] v->v∈Q
 ile:i<=Q.length
section
variable {n:Nat} {c f:Nat->Nat->Int} {x:Nat} {par:Nat->Int} {Q:List Nat} {i:Nat}
theorem Bq.len (h:Bq n c f x par Q i):Q.length<=n:=qI n Q h.nodup h.lt
theorem Bq.start (hx:x<n):Bq n c f x (fun v=>if v=x then(x:Int)else -1) [x] 0:=by
 refine⟨by simp,fun v hv=>by simp at hv;omega,by simp,by simp,fun v hv=>?_,fun v hv iN=>absurd (by simpa using hv) iN,fun j hj=>ae,by simp⟩
 by_cases h:v=x
 ·simp[h]
 ·simp[h]
theorem Bq.visit (h:Bq n c f x par Q i) (hi:i<Q.length) {v:Nat} (hv:v<n) (hp:par v<0) (hr:f Q[i] v<c Q[i] v):Bq n c f x (fun w=>if w=v then(Q[i]:Int)else par w) (Q++[v]) i:=by
 have ZK:v∉Q:=fun hm=>by have:=(h.iff v hv).2 hm;omega
 have R9:x≠v:=fun e=>ZK (e▸h.mem)
 have Cd:∀u∈Q,(Q++[v]).idxOf u=Q.idxOf u:=fun u hu=>by rw[List.idxOf_append,if_pos hu]
 have yG:(Q++[v]).idxOf v=Q.length:=by rw[List.idxOf_append,if_neg ZK];simp
 refine⟨?_,fun w hw=>?_,by simp only[if_neg R9];exact h.root,by simp[h.mem],fun w hw=>?_,fun w hw iN=>?_,fun j hj hl w hw LG=>?_,by simp;omega⟩
 ·refine List.nodup_append.2 ⟨h.nodup,by simp,fun a ha b hb=>?_⟩
  rw[List.mem_singleton.1 hb]
  rintro rfl;exact ZK ha
 ·rcases List.mem_append.1 hw with hw|hw
  ·exact h.lt w hw
  ·rw[List.mem_singleton.1 hw];exact hv
 ·by_cases HN:w=v
  ·subst HN;simp
  ·rw[if_neg HN,h.iff w hw];simp[HN]
 ·by_cases HN:w=v
  ·subst HN
   refine⟨Q[i],by simp,by simp,?_,hr⟩
   rw[Cd _ (List.getElem_mem hi),yG]
   exact List.idxOf_lt_length_of_mem (List.getElem_mem hi)
  ·have hwQ:w∈Q:=by
    rcases List.mem_append.1 hw with hw|hw
    ·exact hw
    ·exact absurd (List.mem_singleton.1 hw) HN
   obtain⟨u,h1,h2,h3,h4⟩:=h.up w hwQ iN
   exact⟨u,by simp[h1],by rw[if_neg HN];exact h2,by rw[Cd u h1,Cd w hwQ];exact h3,h4⟩
 ·have iv:j<Q.length:=by have:=h.ile;omega
  rw[List.getElem_append_left iv]at LG
  exact List.mem_append_left _ (h.done j hj iv w hw LG)
theorem Bq.next (h:Bq n c f x par Q i) (hi:i<Q.length) (eP:∀v,v<n->f Q[i] v<c Q[i] v->0<=par v):Bq n c f x par Q (i+1):=by
 refine⟨h.nodup,h.lt,h.root,h.mem,h.iff,h.up,fun j hj hl v hv hr=>?_,ae⟩
 by_cases ns:j=i
 ·subst ns;exact(h.iff v hv).1 (eP v hv hr)
 ·exact h.done j ae hl v hv hr
theorem Bq.cut (h:Bq n c f x par Q Q.length) {y:Nat} (hy:y<n) (hp:par y<0):∃S:Nat->Bool,S x=true/\S y=false/\∀u v,u<n->v<n->S u=true->S v=false->¬f u v<c u v:=by
 refine⟨fun v=>decide (v∈Q),by simp[h.mem],?_,fun u v hu hv h1 h2 hr=>?_⟩
 ·have:y∉Q:=fun hm=>by have:=(h.iff y hy).2 hm;omega
  simp[this]
 ·simp only[decide_eq_true_eq,decide_eq_false_iff_not]at h1 h2
  obtain⟨j,hj,rfl⟩:=List.getElem_of_mem h1
  exact h2 (h.done j hj hj v hv hr)
def xV (c f:Nat->Nat->Int) (Q:List Nat) (y k:Nat) (out:List Nat):Prop:=∃rest,out.reverse=k::rest/\(k::rest).getLast (by simp)=y/\tH f c (k::rest)/\(k::rest).Pairwise (fun a b=>Q.idxOf a<Q.idxOf b)/\∀v∈k::rest,v∈Q
theorem xV.start {y:Nat} (hy:y∈Q):xV c f Q y y [y]:=⟨[],rfl,rfl,trivial,by simp,by simpa using hy⟩
theorem xV.step {y k u:Nat} {out:List Nat} (h:xV c f Q y k out) (hu:u∈Q) (hi:Q.idxOf u<Q.idxOf k) (hr:f u k<c u k):xV c f Q y u (out++[u]):=by
 obtain⟨rest,h1,h2,h3,h4,h5⟩:=h
 refine⟨k::rest,by rw[List.reverse_append,h1];rfl,by rw[List.getLast_cons (by simp)];exact h2,⟨hr,h3⟩,?_,?_⟩
 ·refine List.pairwise_cons.2 ⟨fun b hb=>?_,h4⟩
  rcases List.mem_cons.1 hb with rfl|hb
  ·exact hi
  ·have:=(List.pairwise_cons.1 h4).1 b hb;omega
 ·intro v hv
  rcases List.mem_cons.1 hv with rfl|hv
  ·exact hu
  ·exact h5 v hv
theorem xV.len {y k:Nat} {out:List Nat} (h:xV c f Q y k out) (hq:∀v∈Q,v<n):out.length<=n:=by
 obtain⟨rest,h1,_,_,h4,h5⟩:=h
 rw[<-List.length_reverse,h1]
 refine qI n _ (h4.imp fun eM he=>?_) fun v hv=>hq v (h5 v hv)
 subst he;omega
structure UR (n:Nat) (c f:Nat->Nat->Int) (x y:Nat) (p:List Nat):Prop where
 way:∃r,p=x::r/\(x::r).getLast (by simp)=y
 nodup:p.Nodup
 room:tH f c p
 lt:∀v∈p,v<n
theorem xV.way {y:Nat} {out:List Nat} (h:xV c f Q y x out) (hq:∀v∈Q,v<n):UR n c f x y out.reverse:=by
 obtain⟨rest,h1,h2,h3,h4,h5⟩:=h
 rw[h1]
 exact⟨⟨rest,rfl,h2⟩,h4.imp fun eM he=>by subst he;omega,h3,fun v hv=>hq v (h5 v hv)⟩
end
end Go.Proofs.YtiabgllilcfheaaGreat.V

namespace Go.Proofs.YtiabgllilcfheaaGreat.V
open Go.RowKit
attribute [local irreducible] er wpOps fY Call
attribute [local go_sem] aF fC eR fN fK du upd cw K.av cQ AV.cells AV.cell rowOf rowsOf part ld rowAt bK cq dH dX gG bP dd eh fJ fa dw ea db da dM dP bV bd cU bU cW cV dV eb dZ cR bY dc dY bQ aD cY cF gF bD cL bW aY dn bj dI AV.undef bH bJ dQ dW dL dK cK ef eo cz ee ec cX cZ List.getD_cons_zero List.getD_cons_succ List.getD_nil List.all_cons List.all_nil Bool.and_true Bool.true_and Bool.and_self Bool.not_true Bool.not_false Option.map_some Option.map_none Option.bind_some Option.bind_none List.length_cons List.length_nil List.take_succ_cons List.take_zero List.take_nil List.drop_succ_cons List.drop_zero List.drop_nil List.head?_cons List.map_cons List.map_nil List.getElem?_cons_zero List.getElem?_cons_succ List.cons_append List.nil_append List.append_nil List.length_map List.set_cons_zero List.set_cons_succ Nat.reduceMul eq_self Int.toNat_natCast Int.natCast_nonneg and_self true_and and_true decide_true decide_false Bool.false_eq_true Nat.zero_add Nat.add_zero List.contains_cons List.contains_nil Bool.or_false Bool.false_or beq_self_eq_true Nat.reduceBEq ne_eq not_true_eq_false not_false_eq_true Id.mk.injEq false_and and_false Nat.reduceLT Int.reduceLE Int.reduceLT Int.reduceToNat Int.reduceNeg Int.reduceAdd Nat.le_refl List.length_append beq_true beq_false Bool.not_eq_eq_eq_not or_false false_or eu ai aj aP bh bZ cm aW bx aK bf cP bI
def nA (l:List Nat) (i x:Nat):Nat:=if x<i∨l.length-i<=x then l.getD (l.length-1-x) 0 else l.getD x 0
theorem Bu (l:List Nat):l.map eN=eI (fun x=>l.getD x 0) l.length:=by
 refine List.ext_getElem? fun i=>?_
 by_cases h:i<l.length
 ·rw[gD h,List.getElem?_map,List.getElem?_eq_getElem h];simp[List.getD_eq_getElem?_getD,h]
 ·rw[List.getElem?_eq_none (by simp;omega),List.getElem?_eq_none (by rw[iz];omega)]
theorem JQ (l:List Nat):eI (nA l 0) l.length=l.map eN:=by
 rw[Bu]
 exact jh fun x hx=>by unfold nA;rw[if_neg ae]
theorem MC (l:List Nat) {i:Nat} (h:l.length<=2*i+1) (hi:i<=l.length):eI (nA l i) l.length=l.reverse.map eN:=by
 rw[Bu l.reverse,List.length_reverse]
 refine jh fun x hx=>?_
 have hr:l.reverse.getD x 0=l.getD (l.length-1-x) 0:=by
  rw[List.getD_eq_getElem?_getD,List.getElem?_reverse hx,List.getD_eq_getElem?_getD]
 rw[hr]
 unfold nA
 by_cases hc:x<i∨l.length-i<=x
 ·rw[if_pos hc]
 ·rw[if_neg hc]
  have:x=l.length-1-x:=ae
  rw[<-this]
theorem JR (l:List Nat) (hp:0<l.length) (hl:l.length<=1048576) (o:Id) (σ:ax) (ho:σ.get o=some ⟨true,1,l.map eN⟩) (xJ:o.bt<σ.next):
  Call Tryz.prog 197 [.own o 0 l.length] σ fun r σ'=>σ'.get o=some ⟨true,1,l.reverse.map eN⟩/\σ.next<=σ'.next/\∀i:Id,i.bt<σ.next->(i=o)=False->σ'.get i=σ.get i:=by
 refine ij fF rfl fun jc=>?_
 clear jc
 rw[<-JQ]at ho
 have XH:IntKind.i64.wrap ((l.length:Int)-1)=((l.length-1:Nat):Int):=by rw[cD ae];omega
 (try((repeat(revert hN;revert N;apply Pn.out));refine wk @XH ?_;(repeat(refine Pn.mk ?_;intro N hN))))
 refine bz (fun m env st=>∃i:Nat,m=l.length-i/\2*i<=l.length+1/\i<=l.length/\env 2=.int .i64 (i:Int)/\env 3=.int .i64 ((l.length:Int)-1-i)/\st.get o=some ⟨true,1,eI (nA l i) l.length⟩/\σ.next<=st.next/\∀x:Id,x.bt<σ.next->(x=o)=False->st.get x=σ.get x) l.length ⟨0,rfl,ae,ae,by(simp only[go_sem, ↓reduceIte,Nat.reduceEqDiff,Nat.reduceAdd,Nat.reduceSub,Nat.reduceLeDiff,reduceCtorEq])<;>rfl,by(simp only[go_sem, ↓reduceIte,Nat.reduceEqDiff,Nat.reduceAdd,Nat.reduceSub,Nat.reduceLeDiff,reduceCtorEq,XH]);congr 1;omega,ho,aU,fun x _ _=>rfl⟩ ?_
 rintro m env_b st_b ⟨i,rfl,xI,l5,b2,b3,bg,bn,eW⟩ bkp
 have b0:=bkp 0 (by kernel_rfl)
 simp only[go_sem, ↓reduceIte,Nat.reduceEqDiff,Nat.reduceAdd,Nat.reduceSub,Nat.reduceLeDiff,reduceCtorEq]at b0
 clear bkp
 have tl:=iz (nA l i) l.length
 have lp:=dj (i:=o) (n:=st_b.next) ae
 by_cases hi:(i:Int)<(l.length:Int)-1-i
 ·have fU:i<l.length:=ae
  obtain⟨j,hj⟩:∃j,j=l.length-1-i:=⟨_,rfl⟩
  have oi:j<l.length:=ae
  have OA:(l.length:Int)-1-i=(j:Int):=ae
  rw[OA]at b3 hi
  have g1:=gD (f:=nA l i) fU
  have g2:=gD (f:=nA l i) oi
  have e1:nA l i i=l.getD i 0:=by unfold nA;rw[if_neg ae]
  have e2:nA l i j=l.getD j 0:=by unfold nA;rw[if_neg ae]
  have Qq:(eI (nA l i) l.length).set i (eN (l.getD j 0))=eI (fun x=>if x=i then l.getD j 0 else nA l i x) l.length:=rL fU (if_pos rfl) fun x _ hx=>if_neg hx
  have LH:(eI (fun x=>if x=i then l.getD j 0 else nA l i x) l.length).set j (eN (l.getD i 0))=eI (nA l (i+1)) l.length:=rL oi (by unfold nA;rw[if_pos ae];congr 1;omega) fun x hx UD=>by
   by_cases Fw:x=i
   ·rw[if_pos Fw];unfold nA;rw[if_pos ae];congr 1;omega
   ·rw[if_neg Fw];unfold nA
    by_cases hc:x<i∨l.length-i<=x
    ·rw[if_pos hc,if_pos ae]
    ·rw[if_neg hc,if_neg ae]
  have XR:=iz (fun x=>if x=i then l.getD j 0 else nA l i x) l.length
  have g3:=gD (f:=fun x=>if x=i then l.getD j 0 else nA l i x) oi
  rw[e1]at g1
  rw[e2]at g2
  rw[if_neg ae,e2]at g3
  rw[eN]at g1 g2 g3 Qq LH
  have hii:(i:Int)<(l.length:Int):=ae
  have ns:(j:Int)<(l.length:Int):=ae
  have tD:IntKind.i64.wrap ((i:Int)+1)=((i+1:Nat):Int):=az ae
  have xl:IntKind.i64.wrap ((j:Int)-1)=(l.length:Int)-1-((i+1:Nat):Int):=by rw[cD ae];omega
  (try((repeat(revert hN;revert N;apply Pn.out));refine wk (tw @b0 (tw @b2 (tw @b3 (tw @bg (tw @hi (tw @hii (tw @ns (tw @g1 (tw @g2 (tw @g3 (tw @Qq (tw @LH (tw @tl (tw @XR (tw @lp (tw @tD @xl)))))))))))))))) ?_;(repeat(refine Pn.mk ?_;intro N hN))))
  refine⟨_,?_,i+1,rfl,ae,ae,sd @tD,sd @xl,sd @LH,aU,fun x hx xn=>?_⟩
  ·omega
  ·have:=eW x hx xn
   simp only[go_sem, ↓reduceIte,Nat.reduceEqDiff,Nat.reduceAdd,Nat.reduceSub,Nat.reduceLeDiff,reduceCtorEq,xn,this]
 ·rw[MC l ae l5]at bg
  (try((repeat(revert hN;revert N;apply Pn.out));refine wk (tw @b0 (tw @b2 (tw @b3 (tw @bg @hi)))) ?_;(repeat(refine Pn.mk ?_;intro N hN))))
  exact gN (.inr rfl) (vs:=[]) (by simp only[gS,go_sem, ↓reduceIte,Nat.reduceEqDiff,Nat.reduceAdd,Nat.reduceSub,Nat.reduceLeDiff,reduceCtorEq]) ⟨bg,aU,eW⟩
theorem WH (cnt:Nat) (vG:1<=cnt) (hn:cnt<=1048576) (c f:Nat->Nat->Int) (x y:Nat) (hx:x<cnt) (hy:y<cnt):
  iQ Tryz.prog 192 [.dv (mO cnt c f),.int .i64 x,.int .i64 y] fun r=>(r=.ck/\∃S:Nat->Bool,S x=true/\S y=false/\∀u v,u<cnt->v<cnt->S u=true->S v=false->¬f u v<c u v)∨∃p:List Nat,r=.sl (p.map eN)/\UR cnt c f x y p:=by
 refine iQ.body fF rfl fun hl n0=>?_
 clear hl
 have lM:=zC c cnt
 have kB:(0:Int)<=(cnt:Int):=ae
 have Fw:(x:Int)<(cnt:Int):=ae
 have XK:(y:Int)<(cnt:Int):=ae
 (try((repeat(revert hN;revert N;apply Pn.out));refine wk (tw @mO.eq_1 @lM) ?_;(repeat(refine Pn.mk ?_;intro N hN))))
 refine .inr (aA _ _ _ _ _ (fun r σ1 hq=>?_) (MA cnt vG hn (-1) ⟨192002000,n0+1+1⟩ _ (sd @Nat.zero_add) aU))
 obtain⟨o,rfl,ho,OG,OH,jn⟩:=hq
 (try dsimp only at ho OG OH jn)
 refine hN _ _ ?_
 clear hN N
 have lp:=dj OH
 have sr:(cnt:Int)<=1048576:=ae
 have I5:tV<tV+cnt:=ae
 have iP:List.replicate cnt [AV.int .i64 (-1)]=eT (fun _=>-1) cnt:=by
  refine List.ext_getElem? fun i=>?_
  by_cases h:i<cnt
  ·rw[eQ h,List.getElem?_replicate,if_pos h];rfl
  ·rw[List.getElem?_eq_none (by simp;omega),List.getElem?_eq_none (by rw[eH];omega)]
 rw[iP]at ho
 have Eh:(eT (fun _=>-1) cnt).set x (aJ (x:Int))=eT (fun v=>if v=x then(x:Int)else -1) cnt:=mo hx (if_pos rfl) fun v _ hv=>if_neg hv
 have hg0:=eQ (f:=fun _=>-1) hx
 have tl0:=eH (fun _=>-1) cnt
 rw[aJ]at Eh hg0
 (try((repeat(revert hN;revert N;apply Pn.out));refine wk (tw @mO.eq_1 (tw @lM (tw @kB (tw @sr @lp)))) ?_;(repeat(refine Pn.mk ?_;intro N hN))))
 refine MY ?_
 simp only[go_sem, ↓reduceIte,Nat.reduceEqDiff,Nat.reduceAdd,Nat.reduceSub,Nat.reduceLeDiff,reduceCtorEq,I5]
 refine hN _ _ ?_
 clear hN N
 (try((repeat(revert hN;revert N;apply Pn.out));refine wk (tw @ho (tw @lp (tw @Eh (tw @hg0 (tw @tl0 @Fw))))) ?_;(repeat(refine Pn.mk ?_;intro N hN))))
 obtain⟨C,hC⟩:∃C:Id,C=⟨192003001,σ1.next+1⟩:=⟨_,rfl⟩
 have VP:=dp (a:=o) (b:=C) (by rw[hC];(try dsimp only);omega)
 have hCv:C.bt=σ1.next+1:=by rw[hC]
 refine bz (fun m env st=>∃(par:Nat->Int) (Q:List Nat) (i:Nat),m=cnt-i/\Bq cnt c f x par Q i/\st.get o=some ⟨true,1,eT par cnt⟩/\st.get C=some ⟨true,tV+cnt,(Q.drop i).map eN⟩/\σ1.next+1<st.next) cnt ⟨_,[x],0,rfl,Bq.start hx,sd @lp,by rw[hC];simp only[go_sem, ↓reduceIte,Nat.reduceEqDiff,Nat.reduceAdd,Nat.reduceSub,Nat.reduceLeDiff,reduceCtorEq,lp];rfl,aU⟩ ?_
 rintro m env_b st_b ⟨par,Q,i,rfl,hB,bgo,bgC,bn⟩ bkp
 have b0:=bkp 0 (by kernel_rfl)
 have b1:=bkp 1 (by kernel_rfl)
 have b2:=bkp 2 (by kernel_rfl)
 have b7:=bkp 7 (by kernel_rfl)
 have b8:=bkp 8 (by kernel_rfl)
 have b9:=bkp 9 (by kernel_rfl)
 rw[<-hC]at b9
 simp only[go_sem, ↓reduceIte,Nat.reduceEqDiff,Nat.reduceAdd,Nat.reduceSub,Nat.reduceLeDiff,reduceCtorEq]at b0 b1 b2 b7 b8 b9
 clear bkp
 have hQn:=hB.len
 have l5:=hB.ile
 have Qc:((Q.drop i).map eN).length=Q.length-i:=by simp
 by_cases hi:i<Q.length
 ·have lH:(0:Int)<((Q.length-i:Nat):Int):=ae
  have uM:Q.drop i=Q[i]::Q.drop (i+1):=List.drop_eq_getElem_cons hi
  obtain⟨u,hu⟩:∃u,u=Q[i]:=⟨_,rfl⟩
  have hun:u<cnt:=by rw[hu];exact hB.lt _ (List.getElem_mem hi)
  rw[<-hu]at uM
  (try((repeat(revert hN;revert N;apply Pn.out));refine wk (tw @b0 (tw @b1 (tw @b2 (tw @b7 (tw @b8 (tw @b9 (tw @bgC (tw @Qc @lH)))))))) ?_;(repeat(refine Pn.mk ?_;intro N hN))))
  refine MY ?_
  rw[uM,List.map_cons,show eN u=[.int .i64 (u:Int)]from rfl]at bgC
  simp only[go_sem, ↓reduceIte,Nat.reduceEqDiff,Nat.reduceAdd,Nat.reduceSub,Nat.reduceLeDiff,reduceCtorEq,b9,bgC]
  refine hN _ _ ?_
  clear hN N
  (try((repeat(revert hN;revert N;apply Pn.out));refine wk @b7 ?_;(repeat(refine Pn.mk ?_;intro N hN))))
  refine bz (fun m env st=>∃(v:Nat) (par':Nat->Int) (Q':List Nat),m=cnt-v/\v<=cnt/\env 36=.int .i64 (v:Int)/\Bq cnt c f x par' Q' i/\(∃h:i<Q'.length,Q'[i]=u)/\st.get o=some ⟨true,1,eT par' cnt⟩/\st.get C=some ⟨true,tV+cnt,(Q'.drop (i+1)).map eN⟩/\σ1.next+1<st.next/\∀w,w<v->f u w<c u w->0<=par' w) cnt ⟨0,par,Q,rfl,Nat.zero_le _,by(simp only[go_sem, ↓reduceIte,Nat.reduceEqDiff,Nat.reduceAdd,Nat.reduceSub,Nat.reduceLeDiff,reduceCtorEq])<;>rfl,hB,⟨hi,hu.symm⟩,sd (tw @VP @bgo),sd @VP,aU,fun w hw=>absurd hw (Nat.not_lt_zero w)⟩ ?_
  rintro m env_c st_c ⟨v,par',Q',rfl,hvn,c36,eG,⟨tA,HM⟩,Az,cgC,cn,eP⟩ ckp
  have c0:=ckp 0 (by kernel_rfl)
  have c1:=ckp 1 (by kernel_rfl)
  have c2:=ckp 2 (by kernel_rfl)
  have c7:=ckp 7 (by kernel_rfl)
  have c8:=ckp 8 (by kernel_rfl)
  have c9:=ckp 9 (by kernel_rfl)
  have iE:=ckp 10 (by kernel_rfl)
  have Q2:=ckp 35 (by kernel_rfl)
  simp only[go_sem, ↓reduceIte,Nat.reduceEqDiff,Nat.reduceAdd,Nat.reduceSub,Nat.reduceLeDiff,reduceCtorEq,b0,b1,b2,b7,b8,b9]at c0 c1 c2 c7 c8 c9 iE Q2
  clear ckp
  have tl:=eH par' cnt
  by_cases hv:(v:Int)<(cnt:Int)
  ·have Gj:v<cnt:=ae
   have RK:=eQ (f:=par') Gj
   have jn:=Re cnt c f u v hun Gj
   have hw:IntKind.i64.wrap ((v:Int)+1)=((v+1:Nat):Int):=az ae
   rw[aJ]at RK
   rw[mO]at jn
   by_cases ll:par' v<0
   ·by_cases hr:f u v<c u v
    ·rw[decide_eq_true hr]at jn
     have fj:(eT par' cnt).set v (aJ (u:Int))=eT (fun w=>if w=v then(u:Int)else par' w) cnt:=mo Gj (if_pos rfl) fun w _ hw=>if_neg hw
     rw[aJ]at fj
     have lP:=eG.visit tA Gj ll (by rw[HM];exact hr)
     rw[HM]at lP
     have hQ2:=lP.len
     rw[List.length_append]at hQ2
     simp only[List.length_singleton]at hQ2
     have ik:tV+(Q'.drop (i+1)).length<tV+cnt:=by rw[List.length_drop];omega
     (repeat(first|((repeat(revert hN;revert N;apply Pn.out));refine wk (tw @mO.eq_1 (tw @c0 (tw @c7 (tw @c8 (tw @c9 (tw @iE (tw @c36 (tw @Q2 (tw @hv (tw @Az (tw @RK (tw @tl (tw @ll @fj))))))))))))) ?_;(repeat(refine Pn.mk ?_;intro N hN)))|((try apply Or.inl);refine⟨_,au.x (jn) (sd (tw @mO.eq_1 (tw @c0 (tw @c7 (tw @c8 (tw @c9 (tw @iE (tw @c36 (tw @Q2 (tw @hv (tw @Az (tw @RK (tw @tl (tw @ll @fj)))))))))))))),?_⟩;refine hN _ _ ?_;clear hN N)))
     refine MY ?_
     have hq:(Q'.drop (i+1)).map eN++[[.int .i64 (v:Int)]]=((Q'++[v]).drop (i+1)).map eN:=by rw[List.drop_append_of_le_length ae,List.map_append];rfl
     simp only[go_sem, ↓reduceIte,Nat.reduceEqDiff,Nat.reduceAdd,Nat.reduceSub,Nat.reduceLeDiff,reduceCtorEq,c9,cgC,ik,VP,hq]
     refine hN _ _ ?_
     clear hN N
     (try((repeat(revert hN;revert N;apply Pn.out));refine wk (tw @c36 @hw) ?_;(repeat(refine Pn.mk ?_;intro N hN))))
     refine⟨_,?_,v+1,_,_,rfl,Gj,sd @hw,lP,⟨by rw[List.length_append];omega,by rw[List.getElem_append_left tA];exact HM⟩,sd @VP,sd @VP,aU,fun w hw LG=>?_⟩
     ·omega
     ·by_cases HN:w=v
      ·rw[if_pos HN];omega
      ·rw[if_neg HN];exact eP w ae LG
    ·rw[decide_eq_false hr]at jn
     (repeat(first|((repeat(revert hN;revert N;apply Pn.out));refine wk (tw @mO.eq_1 (tw @c0 (tw @c7 (tw @c8 (tw @c9 (tw @iE (tw @c36 (tw @Q2 (tw @hv (tw @Az (tw @RK (tw @tl (tw @ll @hw))))))))))))) ?_;(repeat(refine Pn.mk ?_;intro N hN)))|((try apply Or.inl);refine⟨_,au.x (jn) (sd (tw @mO.eq_1 (tw @c0 (tw @c7 (tw @c8 (tw @c9 (tw @iE (tw @c36 (tw @Q2 (tw @hv (tw @Az (tw @RK (tw @tl (tw @ll @hw)))))))))))))),?_⟩;refine hN _ _ ?_;clear hN N)))
     refine⟨_,?_,v+1,par',Q',rfl,Gj,sd @hw,eG,⟨tA,HM⟩,sd @Az,sd @cgC,aU,fun w hw LG=>?_⟩
     ·omega
     ·by_cases HN:w=v
      ·subst HN;exact absurd LG hr
      ·exact eP w ae LG
   ·(try((repeat(revert hN;revert N;apply Pn.out));refine wk (tw @mO.eq_1 (tw @c0 (tw @c7 (tw @c8 (tw @c9 (tw @iE (tw @c36 (tw @Q2 (tw @hv (tw @Az (tw @RK (tw @tl (tw @ll @hw))))))))))))) ?_;(repeat(refine Pn.mk ?_;intro N hN))))
    refine⟨_,?_,v+1,par',Q',rfl,Gj,sd @hw,eG,⟨tA,HM⟩,sd @Az,sd @cgC,aU,fun w hw LG=>?_⟩
    ·omega
    ·by_cases HN:w=v
     ·subst HN;omega
     ·exact eP w ae LG
  ·have hvc:v=cnt:=ae
   subst hvc
   (try((repeat(revert hN;revert N;apply Pn.out));refine wk (tw @c36 (tw @Q2 @hv)) ?_;(repeat(refine Pn.mk ?_;intro N hN))))
   refine⟨_,?_,par',Q',i+1,rfl,eG.next tA fun w hw hr=>eP w hw (by rw[<-HM];exact hr),sd @Az,sd @cgC,aU⟩
   omega
 ·have hiQ:i=Q.length:=ae
  subst hiQ
  have lH:¬(0:Int)<((Q.length-Q.length:Nat):Int):=ae
  have Y9:=eQ (f:=par) hy
  have tl:=eH par cnt
  rw[aJ]at Y9
  by_cases ll:par y<0
  ·(try((repeat(revert hN;revert N;apply Pn.out));refine wk (tw @b0 (tw @b1 (tw @b2 (tw @b7 (tw @b8 (tw @b9 (tw @bgC (tw @Qc (tw @lH (tw @bgo (tw @Y9 (tw @tl (tw @XK @ll))))))))))))) ?_;(repeat(refine Pn.mk ?_;intro N hN))))
   exact⟨[.ck],sd @Nat.zero_add,.ck,lk _ _,.inl ⟨rfl,hB.cut hy ll⟩⟩
  ·(try((repeat(revert hN;revert N;apply Pn.out));refine wk (tw @b0 (tw @b1 (tw @b2 (tw @b7 (tw @b8 (tw @b9 (tw @bgC (tw @Qc (tw @lH (tw @bgo (tw @Y9 (tw @tl (tw @XK @ll))))))))))))) ?_;(repeat(refine Pn.mk ?_;intro N hN))))
   refine bz (fun m env st=>∃(k:Nat) (out:List Nat) (p:Id),m=Q.idxOf k/\env 13=.int .i64 (k:Int)/\env 12=.own p 0 out.length/\st.get p=some ⟨true,1,out.map eN⟩/\p.bt<st.next/\st_b.next<=p.bt/\k∈Q/\xV c f Q y k out/\st.get o=some ⟨true,1,eT par cnt⟩) (Q.idxOf y) ⟨y,[y],⟨192017001,st_b.next+1+1⟩,rfl,by(simp only[go_sem, ↓reduceIte,Nat.reduceEqDiff,Nat.reduceAdd,Nat.reduceSub,Nat.reduceLeDiff,reduceCtorEq]),by(simp only[go_sem, ↓reduceIte,Nat.reduceEqDiff,Nat.reduceAdd,Nat.reduceSub,Nat.reduceLeDiff,reduceCtorEq])<;>rfl,by(simp only[go_sem, ↓reduceIte,Nat.reduceEqDiff,Nat.reduceAdd,Nat.reduceSub,Nat.reduceLeDiff,reduceCtorEq])<;>rfl,aU,aU,(hB.iff y hy).1 ae,xV.start ((hB.iff y hy).1 ae),by(have UB:=dj (i:=o) (n:=st_b.next) ae);simp only[go_sem, ↓reduceIte,Nat.reduceEqDiff,Nat.reduceAdd,Nat.reduceSub,Nat.reduceLeDiff,reduceCtorEq,UB,bgo]⟩ ?_
   rintro m env_d st_d ⟨k,out,p,rfl,d13,d12,dgp,dpn,dpo,hkQ,xG,dgo⟩ dkp
   have d1:=dkp 1 (by kernel_rfl)
   have d8:=dkp 8 (by kernel_rfl)
   simp only[go_sem, ↓reduceIte,Nat.reduceEqDiff,Nat.reduceAdd,Nat.reduceSub,Nat.reduceLeDiff,reduceCtorEq,b1,b8]at d1 d8
   clear dkp
   have Da:=dj dpn
   have Ej:=dj (i:=o) (n:=st_d.next) ae
   have eS:=dp (a:=o) (b:=p) ae
   have OE:=xG.len hB.lt
   have iR:=hB.lt k hkQ
   have gp:(out.map eN).length=out.length:=by simp
   by_cases Xs:k=x
   ·have hd:decide ((k:Int)=(x:Int))=true:=decide_eq_true (by rw[Xs])
    have Zu:0<out.length:=by
     obtain⟨rest,h1,_⟩:=xG
     rw[<-List.length_reverse,h1];simp
    (try((repeat(revert hN;revert N;apply Pn.out));refine wk (tw @d1 (tw @d8 (tw @d12 (tw @d13 (tw @hd @Bool.not_true))))) ?_;(repeat(refine Pn.mk ?_;intro N hN))))
    refine .inr (aA _ _ _ _ _ (fun r σ2 hq=>?_) (JR out Zu ae p _ dgp aU))
    obtain⟨Y6,nu,Lq⟩:=hq
    refine hN _ _ ?_
    clear hN N
    (try((repeat(revert hN;revert N;apply Pn.out));refine wk @d12 ?_;(repeat(refine Pn.mk ?_;intro N hN))))
    refine⟨[.own p 0 out.length],sd @d12,.sl (out.reverse.map eN),?_,.inr ⟨out.reverse,rfl,by subst Xs;exact xG.way hB.lt⟩⟩
    exact eE (sz:=1) Y6 (by simp) fun a=>Rg _ 4 a
   ·have hd:decide ((k:Int)=(x:Int))=false:=decide_eq_false fun h=>Xs ae
    obtain⟨u,huQ,hpu,Cd,hr⟩:=hB.up k hkQ Xs
    have gq:=eQ (f:=par) iR
    rw[aJ,hpu]at gq
    have hki:(k:Int)<(cnt:Int):=ae
    have e1:out.length+1<=16777216:=ae
    (try((repeat(revert hN;revert N;apply Pn.out));refine wk (tw @d1 (tw @d8 (tw @d12 (tw @d13 (tw @hd (tw @Bool.not_false (tw @dgo (tw @dgp (tw @gq (tw @tl (tw @hki (tw @Da (tw @Ej (tw @eS (tw @gp @e1))))))))))))))) ?_;(repeat(refine Pn.mk ?_;intro N hN))))
    refine⟨_,Cd,u,out++[u],⟨192021003,st_d.next+1+1⟩,rfl,sd @Nat.zero_add,by rw[List.length_append];simp only[go_sem, ↓reduceIte,Nat.reduceEqDiff,Nat.reduceAdd,Nat.reduceSub,Nat.reduceLeDiff,reduceCtorEq,List.length_cons,List.length_nil],by rw[List.map_append,List.map_cons,List.map_nil];simp only[go_sem, ↓reduceIte,Nat.reduceEqDiff,Nat.reduceAdd,Nat.reduceSub,Nat.reduceLeDiff,reduceCtorEq,eN],aU,aU,huQ,xG.step huQ Cd hr,sd (tw @Ej (tw @eS @dgo))⟩
theorem Dp (b:Nat):∀(l:List Nat) (a:Nat) (f:Nat->Nat->Int),nJ f ((a::l)++[b])=lK (nJ f (a::l)) ((a::l).getLast (by simp)) b
 |[],a,f=>rfl
 |c::l,a,f=>by
  rw[List.cons_append,List.cons_append,nJ,<-List.cons_append,Dp b l c (lK f a c),nJ,List.getLast_cons_cons]
theorem Iu {p:List Nat} {f:Nat->Nat->Int} {i:Nat} (h1:1<=i) (hi:i<p.length):nJ f (p.take (i+1))=lK (nJ f (p.take i)) (p[i-1]'ae) p[i]:=by
 rw[List.take_succ_eq_append_getElem hi]
 have iN:p.take i≠[]:=by
  intro h
  have:(p.take i).length=0:=by rw[h];rfl
  rw[List.length_take]at this;omega
 obtain⟨a,l,RE⟩:∃a l,p.take i=a::l:=by
  cases h:p.take i with
  |nil=>exact absurd h iN
  |cons a l=>exact⟨a,l,rfl⟩
 have yG:(p.take i).getLast iN=p[i-1]'ae:=by
  rw[List.getLast_eq_getElem,List.getElem_take]
  congr 1
  rw[List.length_take];omega
 simp only[RE]at yG ⊢
 rw[Dp,yG]
theorem JN (f:Nat->Nat->Int) (a b u v:Nat):lK f a b u v<=f u v+1/\f u v-1<=lK f a b u v:=by
 unfold lK bump
 split<;>split<;>constructor<;>omega
theorem nK:∀(p:List Nat) (f:Nat->Nat->Int) (u v:Nat),nJ f p u v<=f u v+p.length/\f u v-p.length<=nJ f p u v
 |[],f,u,v=>by simp[nJ]
 |[_],f,u,v=>by simp[nJ];omega
 |a::b::r,f,u,v=>by
  rw[nJ]
  have h1:=nK (b::r) (lK f a b) u v
  have h2:=JN f a b u v
  simp only[List.length_cons]at h1 ⊢
  omega
theorem pW.push {g g':Rows} {X o1 o2:Id} {R1 R2:Nat->Id} {n nb:Nat} {c f:Nat->Nat->Int} (I:Ir X o1 o2 R1 R2 n nb) (h:pW g X o1 o2 R1 R2 n c f) {a b:Nat} (ha:a<n) (hb:b<n) (qz:a≠b) (hA:g' (R2 a)=some ⟨true,1,eT (bump f a b 1 a) n⟩) (hB:g' (R2 b)=some ⟨true,1,eT (bump (bump f a b 1) b a (-1) b) n⟩) (hf:∀i:Id,i.bt<nb->(i=R2 a)=False->(i=R2 b)=False->g' i=g i):pW g' X o1 o2 R1 R2 n c (lK f a b):=by
 have ne:∀{i:Id} {s:Nat},i.site=s->(s==178005006)=false->∀a,a<n->(i=R2 a)=False:=fun {i s} hi hs a ha=>by
  simp only[eq_iff_iff,iff_false]
  rintro rfl
  rw[I.QB a ha]at hi
  subst hi
  simp at hs
 refine⟨(hf _ I.vx (ne I.sx (by decide) _ ha) (ne I.sx (by decide) _ hb)).trans h.x,(hf _ I.v1 (ne I.s1 (by decide) _ ha) (ne I.s1 (by decide) _ hb)).trans h.t1,(hf _ I.v2 (ne I.s2 (by decide) _ ha) (ne I.s2 (by decide) _ hb)).trans h.t2,fun i hi=>(hf _ (I.Z2 i hi) (ne (I.XP i hi) (by decide) _ ha) (ne (I.XP i hi) (by decide) _ hb)).trans (h.r1 i hi),fun i hi=>?_⟩
 by_cases NB:i=b
 ·subst NB;exact hB
 ·by_cases NA:i=a
  ·subst NA
   rw[hA,lK,lh NB]
  ·rw[lK,lh NB,lh NA,hf _ (I.WE i hi) (by simp only[eq_iff_iff,iff_false];exact fun he=>NA (I.i2 i _ hi ha he)) (by simp only[eq_iff_iff,iff_false];exact fun he=>NB (I.i2 i _ hi hb he))]
   exact h.r2 i hi
theorem Sv (cnt:Nat) (vG:1<=cnt) (hn:cnt<=1048576) (c:Nat->Nat->Int) (hc:∀u v,u<cnt->v<cnt->0<=c u v/\c u v<=16777216) (x y:Nat) (hx:x<cnt) (hy:y<cnt) (OP:x≠y) (t:Int) (ht:t<=1099511627776)
  (X o1 o2:Id) (R1 R2:Nat->Id) (nb:Nat) (I:Ir X o1 o2 R1 R2 cnt nb) (σ:ax) (hM:pW σ.get X o1 o2 R1 R2 cnt c (fun _ _=>0)) (Uv:nb<=σ.next):
  Call Tryz.prog 179 [.ptr X 0 0,.int .i64 x,.int .i64 y,.int .i64 t] σ fun r σ'=>∃(k:Nat) (f:Nat->Nat->Int),r=.int .i64 k/\pb cnt c f x y k/\pW σ'.get X o1 o2 R1 R2 cnt c f/\((∃S:Nat->Bool,S x=true/\S y=false/\∀u v,u<cnt->v<cnt->S u=true->S v=false->¬f u v<c u v)∨t<=k)/\σ.next<=σ'.next:=by
 refine ij fF rfl fun hl=>?_
 clear hl
 have hxS:(fun v=>decide (v=x)) x=true:=by simp
 have hyS:(fun v=>decide (v=x)) y=false:=by simp;exact fun h=>OP h.symm
 obtain⟨top,ZI⟩:∃top,top=nM cnt (fun v=>decide (v=x)) c:=⟨_,rfl⟩
 (try((repeat(revert hN;revert N;apply Pn.out));refine wk @Nat.zero_add ?_;(repeat(refine Pn.mk ?_;intro N hN))))
 refine bz (fun m env st=>∃(k:Nat) (f:Nat->Nat->Int),m=(top-k).toNat/\env 9=.int .i64 (k:Int)/\pb cnt c f x y k/\pW st.get X o1 o2 R1 R2 cnt c f/\σ.next<=st.next/\(0<k->(k:Int)<=t)/\∀u v,-((k:Int)*(cnt:Int))<=f u v) (top-0).toNat ⟨0,fun _ _=>0,rfl,by(simp only[go_sem, ↓reduceIte,Nat.reduceEqDiff,Nat.reduceAdd,Nat.reduceSub,Nat.reduceLeDiff,reduceCtorEq])<;>rfl,pb.zero fun u v hu hv=>(hc u v hu hv).1,hM,aU,fun h=>absurd h (Nat.lt_irrefl 0),fun u v=>by simp⟩ ?_
 rintro m env_b st_b ⟨k,f,rfl,b9,hF,bM,bn,bk,blo⟩ bkp
 have b0:=bkp 0 (by kernel_rfl)
 have b1:=bkp 1 (by kernel_rfl)
 have b2:=bkp 2 (by kernel_rfl)
 have b3:=bkp 3 (by kernel_rfl)
 simp only[go_sem, ↓reduceIte,Nat.reduceEqDiff,Nat.reduceAdd,Nat.reduceSub,Nat.reduceLeDiff,reduceCtorEq]at b0 b1 b2 b3
 clear bkp
 have hz:eC (eu st_b.get) 6 [.ptr X 0 0,.int .i64 (x:Int),.int .i64 (y:Int)]=some [.dv (mO cnt c f),.int .i64 x,.int .i64 y]:=by simp only[ai,aj,bM.fz,aP,Option.map_some]
 (try((repeat(revert hN;revert N;apply Pn.out));refine wk (tw @b0 (tw @b1 (tw @b2 (tw @b3 @b9)))) ?_;(repeat(refine Pn.mk ?_;intro N hN))))
 refine .inr (aA _ _ _ _ _ (fun r σ1 hq=>?_) ((WH cnt vG hn c f x y hx hy).x mixed hz))
 obtain⟨RZ,rfl⟩:=hq
 refine hN _ _ ?_
 clear hN N
 rcases RZ with⟨rfl,S,On,Oo,Ui⟩|⟨p,rfl,hW⟩
 ·(try((repeat(revert hN;revert N;apply Pn.out));refine wk (tw @b0 (tw @b1 (tw @b2 (tw @b3 (tw @b9 (tw @Bool.not_true @Bool.not_false)))))) ?_;(repeat(refine Pn.mk ?_;intro N hN))))
  refine gN (.inl rfl) (vs:=[.int .i64 (k:Int)]) (sd @Nat.zero_add) ⟨k,f,rfl,hF,by(try dsimp only);exact bM,.inl ⟨S,On,Oo,Ui⟩,aU⟩
 ·obtain⟨⟨rs,rfl,yG⟩,re,ik,hplt⟩:=hW
  by_cases NF:t<=(k:Int)
  ·(try((repeat(revert hN;revert N;apply Pn.out));refine wk (tw @b0 (tw @b1 (tw @b2 (tw @b3 (tw @b9 (tw @NF (tw @Bool.not_true @Bool.not_false))))))) ?_;(repeat(refine Pn.mk ?_;intro N hN))))
   refine gN (.inl rfl) (vs:=[.int .i64 (k:Int)]) (sd @Nat.zero_add) ⟨k,f,rfl,hF,by(try dsimp only);exact bM,.inr NF,aU⟩
  ·(try((repeat(revert hN;revert N;apply Pn.out));refine wk (tw @b0 (tw @b1 (tw @b2 (tw @b3 (tw @b9 (tw @NF (tw @Bool.not_true @Bool.not_false))))))) ?_;(repeat(refine Pn.mk ?_;intro N hN))))
   have mE:=qI cnt _ re hplt
   have hkc:(k:Int)*(cnt:Int)<=1099511627776*1048576:=Int.mul_le_mul ae ae ae ae
   have hfb:=hF.bound (S:=fun v=>decide (v=x)) hxS hyS
   have hnear:=nK
   obtain⟨p,hp⟩:∃p,p=x::rs:=⟨_,rfl⟩
   have Ut:eN x::List.map eN rs=p.map eN:=by rw[hp];rfl
   rw[Ut]
   have RW:1<=p.length:=by rw[hp];simp
   have Oj:=hF.aug yG re ik hplt
   rw[<-hp]at Oj re ik hplt mE
   have R6:p.take 1=[x]:=by rw[hp];rfl
   clear Ut yG
   refine bz (fun m env st=>∃i:Nat,m=p.length-i/\1<=i/\i<=p.length/\env 11=.int .i64 (i:Int)/\pW st.get X o1 o2 R1 R2 cnt c (nJ f (p.take i))/\st_b.next<=st.next) (p.length-1) ⟨1,rfl,Nat.le_refl _,RW,by(simp only[go_sem, ↓reduceIte,Nat.reduceEqDiff,Nat.reduceAdd,Nat.reduceSub,Nat.reduceLeDiff,reduceCtorEq])<;>rfl,by rw[R6];exact bM,aU⟩ ?_
   rintro m env_c st_c ⟨i,rfl,Oy,l5,pG,cM,cn⟩ ckp
   have c0:=ckp 0 (by kernel_rfl)
   have c1:=ckp 1 (by kernel_rfl)
   have c2:=ckp 2 (by kernel_rfl)
   have c3:=ckp 3 (by kernel_rfl)
   have c9:=ckp 9 (by kernel_rfl)
   have iE:=ckp 10 (by kernel_rfl)
   simp only[go_sem, ↓reduceIte,Nat.reduceEqDiff,Nat.reduceAdd,Nat.reduceSub,Nat.reduceLeDiff,reduceCtorEq,b0,b1,b2,b3,b9]at c0 c1 c2 c3 c9 iE
   clear ckp
   have gp:(p.map eN).length=p.length:=by simp
   by_cases hi:(i:Int)<(p.length:Int)
   ·have fU:i<p.length:=ae
    have z8:=Iu (f:=f) Oy fU
    obtain⟨a,ha⟩:∃a,a=p[i-1]'ae:=⟨_,rfl⟩
    obtain⟨b,hb⟩:∃b,b=p[i]:=⟨_,rfl⟩
    have HC:a<cnt:=by rw[ha];exact hplt _ (List.getElem_mem _)
    have HD:b<cnt:=by rw[hb];exact hplt _ (List.getElem_mem _)
    have qz:a≠b:=by
     rw[ha,hb]
     exact List.pairwise_iff_getElem.1 re (i-1) i ae fU ae
    have Ny:(p.map eN)[i-1]? =some [.int .i64 (a:Int)]:=by rw[List.getElem?_map,List.getElem?_eq_getElem ae,ha];rfl
    have VH:(p.map eN)[i]? =some [.int .i64 (b:Int)]:=by rw[List.getElem?_map,List.getElem?_eq_getElem fU,hb];rfl
    rw[<-ha,<-hb]at z8
    have Zl:=nK (p.take i) f a b
    have Zm:=nK (p.take i) f b a
    rw[List.length_take]at Zl Zm
    have RP:=blo b a
    have Uq:=blo a b
    have V2:=hF.le a b HC HD
    have hu2:=hF.le b a HD HC
    have hca:=hc a b HC HD
    have HE:=hc b a HD HC
    generalize nJ f (p.take i)=fl at *
    have gA:=uE (R:=R2) (n:=cnt) HC
    have gB:=uE (R:=R2) (n:=cnt) HD
    have rA:=cM.r2 _ HC
    have rB:=cM.r2 _ HD
    have cA:=eQ (f:=fl a) HD
    have cB:=eQ (f:=fl b) HC
    have sA:=qh (f:=fl) (a:=a) (d:=1) HD
    have RU:bump fl a b 1 b=fl b:=lh fun h=>qz h.symm
    have sB:=qh (f:=bump fl a b 1) (a:=b) (b:=a) (d:=-1) (n:=cnt) HC
    rw[RU]at sB
    have gX:=cM.x
    have g2:=cM.t2
    have iO:(a:Int)<(cnt:Int):=ae
    have gK:(b:Int)<(cnt:Int):=ae
    have XH:IntKind.i64.wrap ((i:Int)-1)=((i-1:Nat):Int):=by rw[cD ae];omega
    have xI:((i-1:Nat):Int)<(p.length:Int):=ae
    have wA:IntKind.i64.wrap (fl a b+1)=fl a b+1:=cD ae
    have wB:IntKind.i64.wrap (fl b a-1)=fl b a+-1:=by rw[cD ae];omega
    have Qu:IntKind.i64.wrap ((i:Int)+1)=((i+1:Nat):Int):=az ae
    have l2:=lv R2 cnt cnt
    have lA:=eH (fl a) cnt
    have lB:=eH (fl b) cnt
    have iN:(R2 a=R2 b)=False:=by simp only[eq_iff_iff,iff_false];exact fun h=>qz (I.i2 _ _ HC HD h)
    have Lv:(R2 b=R2 a)=False:=by simp only[eq_iff_iff,iff_false];exact fun h=>qz (I.i2 _ _ HC HD h.symm)
    have xA:=CO I.sx (I.QB a HC) (by decide)
    have xB:=CO I.sx (I.QB b HD) (by decide)
    have yA:=CO I.s2 (I.QB a HC) (by decide)
    have yB:=CO I.s2 (I.QB b HD) (by decide)
    have qX:=dj (i:=X) (n:=st_c.next) (by have:=I.vx;omega)
    have q2:=dj (i:=o2) (n:=st_c.next) (by have:=I.v2;omega)
    have qA:=dj (i:=R2 a) (n:=st_c.next) (by have:=I.WE a HC;omega)
    have qB:=dj (i:=R2 b) (n:=st_c.next) (by have:=I.WE b HD;omega)
    rw[aJ]at cA cB sA sB
    (try((repeat(revert hN;revert N;apply Pn.out));refine wk (tw @c0 (tw @c9 (tw @iE (tw @pG (tw @gp (tw @hi (tw @xI (tw @Ny (tw @VH (tw @gA (tw @gB (tw @rA (tw @rB (tw @cA (tw @cB (tw @sA (tw @sB (tw @gX (tw @g2 (tw @iO (tw @gK (tw @XH (tw @wA (tw @wB (tw @Qu (tw @l2 (tw @lA (tw @lB (tw @iN (tw @Lv (tw @xA (tw @xB (tw @yA (tw @yB (tw @qX (tw @q2 (tw @qA @qB))))))))))))))))))))))))))))))))))))) ?_;(repeat(refine Pn.mk ?_;intro N hN))))
    refine⟨_,?_,i+1,rfl,ae,ae,sd @Qu,?_,aU⟩
    ·omega
    ·rw[z8]
     refine cM.push I HC HD qz ?_ ?_ fun j hj h1 h2=>?_
     ·simp only[go_sem, ↓reduceIte,Nat.reduceEqDiff,Nat.reduceAdd,Nat.reduceSub,Nat.reduceLeDiff,reduceCtorEq,iN]
     ·simp only[go_sem, ↓reduceIte,Nat.reduceEqDiff,Nat.reduceAdd,Nat.reduceSub,Nat.reduceLeDiff,reduceCtorEq,iN]
     ·simp only[go_sem, ↓reduceIte,Nat.reduceEqDiff,Nat.reduceAdd,Nat.reduceSub,Nat.reduceLeDiff,reduceCtorEq,h1,h2]
   ·have C8:i=p.length:=ae
    subst C8
    rw[List.take_length]at cM
    have OO:IntKind.i64.wrap ((k:Int)+1)=((k+1:Nat):Int):=az ae
    have Y2:=Oj.bound (S:=fun v=>decide (v=x)) hxS hyS
    (try((repeat(revert hN;revert N;apply Pn.out));refine wk (tw @c0 (tw @c9 (tw @iE (tw @pG (tw @gp (tw @hi @OO)))))) ?_;(repeat(refine Pn.mk ?_;intro N hN))))
    refine⟨_,?_,k+1,_,rfl,sd @OO,by rw[Int.natCast_add];exact Oj,cM,aU,fun _=>ae,fun u v=>?_⟩
    ·rw[<-ZI]at Y2;omega
    ·have h1:=(nK p f u v).2
     have h2:=blo u v
     rw[Int.natCast_add,Int.add_mul]
     omega
theorem Su (cnt:Nat) (vG:1<=cnt) (hn:cnt<=1048576) (c:Nat->Nat->Int) (hc:∀u v,u<cnt->v<cnt->0<=c u v/\c u v<=16777216) (x y:Nat) (hx:x<cnt) (hy:y<cnt) (OP:x≠y) (t:Int) (ht:t<=1099511627776)
  (X o1 o2:Id) (R1 R2:Nat->Id) (nb:Nat) (I:Ir X o1 o2 R1 R2 cnt nb) (σ:ax) (hM:pW σ.get X o1 o2 R1 R2 cnt c (fun _ _=>0)) (Uv:nb<=σ.next):
  Call Tryz.prog 179 [.ptr X 0 0,.int .i64 x,.int .i64 y,.int .i64 t] σ fun r σ'=>∃val:Int,r=.int .i64 val/\(val<t↔∃S:Nat->Bool,S x=true/\S y=false/\nM cnt S c<t)/\σ.next<=σ'.next:=by
 refine aA _ _ _ _ _ (fun r σ1 hq=>?_) (Sv cnt vG hn c hc x y hx hy OP t ht X o1 o2 R1 R2 nb I σ hM Uv)
 obtain⟨k,f,rfl,hF,_,hS,hle⟩:=hq
 refine⟨(k:Int),rfl,⟨fun h=>?_,fun⟨S',h1,h2,h3⟩=>by have:=hF.bound h1 h2;omega⟩,hle⟩
 rcases hS with⟨S,On,Oo,Ui⟩|h2
 ·exact⟨S,On,Oo,by rw[<-hF.full On Oo Ui];exact h⟩
 ·omega
noncomputable def wK (n:Nat) (bs:List PB) (t:Int):Bool:=@decide (lS n bs t) (Classical.propDecidable _)
theorem AO {n:Nat} {bs:List PB} {t:Int} (h:lS n bs t):true=wK n bs t:=by simp[wK,h]
theorem Ed {n:Nat} {bs:List PB} {t:Int} (h:¬lS n bs t):false=wK n bs t:=by simp[wK,h]
theorem OF (cnt:Nat) (hn:cnt<=1048576) (bs:List PB) (hb:∀b∈bs,b.a<cnt/\b.b<cnt) (ev:∀b∈bs,0<=b.s/\b.s<=4) (iK:bs.length<=1048576) (t:Int) (ht:t<=1099511627776):
  au Tryz.prog 150 [.int .i64 cnt,.sl (bs.map aI),.int .i64 t] (.bool (wK cnt bs t)):=by
 refine au.body fF rfl fun hl n0=>?_
 clear hl
 have kC:=CG bs (fun _ _=>0) (fun b h=>(ev b h).1) (fun _ _=>Int.le_refl _)
 have hle:=room_le bs (fun _ _=>0) 0 (fun b h=>(ev b h).2) (fun _ _=>Int.le_refl _) (Int.le_refl _)
 have ik:bs.foldl pC (fun _ _=>0)=mi bs:=rfl
 rw[ik]at kC hle
 (try((repeat(revert hN;revert N;apply Pn.out));refine wk @Nat.zero_add ?_;(repeat(refine Pn.mk ?_;intro N hN))))
 refine bz (fun m env st=>∃y:Nat,m=cnt+1-y/\1<=y/\env 7=.int .i64 (y:Int)/\y<=cnt+1/\∀z,1<=z->z<y->z<cnt->∀S:Nat->Bool,S 0=true->S z=false->t<=jZ S bs) (cnt+1-1) ⟨1,rfl,Nat.le_refl _,by(simp only[go_sem, ↓reduceIte,Nat.reduceEqDiff,Nat.reduceAdd,Nat.reduceSub,Nat.reduceLeDiff,reduceCtorEq])<;>rfl,ae,fun z h1 h2=>ae⟩ ?_
 rintro m env_b st_b ⟨y,rfl,hy1,b7,hyl,eP⟩ bkp
 have b0:=bkp 0 (by kernel_rfl)
 have b1:=bkp 1 (by kernel_rfl)
 have b2:=bkp 2 (by kernel_rfl)
 simp only[go_sem, ↓reduceIte,Nat.reduceEqDiff,Nat.reduceAdd,Nat.reduceSub,Nat.reduceLeDiff,reduceCtorEq]at b0 b1 b2
 clear bkp
 by_cases hy:(y:Int)<(cnt:Int)
 ·have hyn:y<cnt:=ae
  (try((repeat(revert hN;revert N;apply Pn.out));refine wk (tw @b0 (tw @b1 (tw @b2 (tw @b7 @hy)))) ?_;(repeat(refine Pn.mk ?_;intro N hN))))
  refine .inr (aA _ _ _ _ _ (fun r σ1 hq=>?_) (ER cnt ae hn bs hb ev iK _))
  obtain⟨X,o1,o2,R1,R2,rfl,I,I9,hM,_⟩:=hq
  refine hN _ _ ?_
  clear hN N
  (try((repeat(revert hN;revert N;apply Pn.out));refine wk (tw @b0 (tw @b1 (tw @b2 @b7))) ?_;(repeat(refine Pn.mk ?_;intro N hN))))
  have Qo:=Su cnt ae hn (mi bs) (fun u v _ _=>⟨kC u v,by have:=hle u v;omega⟩) 0 y ae hyn ae t ht X o1 o2 R1 R2 σ1.next I
  refine .inr (aA _ _ _ _ _ (fun r σ2 hq=>?_) (Qo _ hM aU))
  obtain⟨val,rfl,vH,nu⟩:=hq
  refine hN _ _ ?_
  clear hN N
  by_cases eM:val<t
  ·(try((repeat(revert hN;revert N;apply Pn.out));refine wk (tw @b0 (tw @b1 (tw @b2 (tw @b7 @eM)))) ?_;(repeat(refine Pn.mk ?_;intro N hN))))
   obtain⟨S,h1,h2,h3⟩:=vH.1 eM
   rw[DG hb]at h3
   exact cu (b:=false) (.inl rfl) (sd @Nat.zero_add) (Ed fun h=>by have:=h S h1 ⟨y,hyn,h2⟩;omega)
  ·have hw:IntKind.i64.wrap ((y:Int)+1)=((y+1:Nat):Int):=az ae
   (try((repeat(revert hN;revert N;apply Pn.out));refine wk (tw @b0 (tw @b1 (tw @b2 (tw @b7 (tw @eM @hw))))) ?_;(repeat(refine Pn.mk ?_;intro N hN))))
   refine⟨_,?_,y+1,rfl,ae,sd (tw @b7 @hw),ae,fun z h1 h2 h3 S On Oo=>?_⟩
   ·omega
   ·by_cases hzy:z=y
    ·subst hzy
     rcases Int.lt_or_le (jZ S bs) t with h|h
     ·exact absurd (vH.2 ⟨S,On,Oo,by rw[DG hb];exact h⟩) eM
     ·exact h
    ·exact eP z h1 ae h3 S On Oo
 ·(try((repeat(revert hN;revert N;apply Pn.out));refine wk (tw @b0 (tw @b1 (tw @b2 (tw @b7 @hy)))) ?_;(repeat(refine Pn.mk ?_;intro N hN))))
  exact cu (b:=true) (.inl rfl) (sd @Nat.zero_add) (AO fun S h0 ⟨z,hz,hzf⟩=>by
   have:z≠0:=by rintro rfl;rw[h0]at hzf;cases hzf
   exact eP z ae ae hz S h0 hzf)
theorem Lw (cnt:Nat) (hn:cnt<=1048576) (bs:List PB) (hb:∀b∈bs,b.a<cnt/\b.b<cnt) (ev:∀b∈bs,0<=b.s/\b.s<=4) (iK:bs.length<=1048576) (t:Int) (ht:t<=1099511627776):
  au Tryz.prog 150 [.int .i64 cnt,CK bs,.int .i64 t] (.bool (wK cnt bs t)):=by
 have h:=OF cnt hn bs hb ev iK t ht
 cases bs with
 |nil=>exact h.cut mixed (.same _ (.ck (.same _ .nil)))
 |cons b r=>rw[CL (by simp)];exact h
def Fx:Prop:=∀(s:ay) (l:List aa),iF s->gH s l->au Tryz.prog 149 [.agg (ad s),.agg [.sl (l.map ab)]] (CK (dz s l))
noncomputable def xN (s:ay) (l:List aa) (t:Int):Bool:=if 64<ju s l t then false else wK (ju s l t) (eB (fc (bw t (dz s l))) (dz s l)) t
theorem Gn (s:ay) (l:List aa) (t:Int):xN s l t=pz s l t:=by
 letI:=Classical.propDecidable (qW l.length (dz s l) t)
 unfold xN
 by_cases h:64<ju s l t
 ·rw[if_pos h]
  exact(nZ (p:=False) ⟨False.elim,fun k=>by have:=k.1;unfold ju at h;omega⟩).symm.trans (by simp) |>.symm
 ·rw[if_neg h]
  by_cases hp:lS (ju s l t) (eB (fc (bw t (dz s l))) (dz s l)) t
  ·rw[<-AO hp]
   exact((nZ (p:=True) ⟨fun _=>⟨by unfold ju at h;omega,hp⟩,fun _=>trivial⟩).symm.trans (by simp)).symm
  ·rw[<-Ed hp]
   exact((nZ (p:=False) ⟨False.elim,fun k=>hp k.2⟩).symm.trans (by simp)).symm
theorem ML (Yx:Fx) (s:ay) (l:List aa) (t:Int) (ht:t<=1099511627776) (h1:1<=l.length) (hS:iF s) (hA:gH s l):au Tryz.prog 131 [.agg (ad s),.agg [.sl (l.map ab)],.int .i64 t] (.ib [.bool (pz s l t),.bool (decide ¬64<ju s l t)]):=by
 rw[<-Gn]
 refine au.body fF rfl fun hl n0=>?_
 clear hl
 have hb:=Av (l:=l) hS
 have iK:=sK (s:=s) hA.1
 have F8:=hA.1.nO
 have zK:=Yx s l hS hA
 have I5:=BV l.length h1 ae (dz s l) (fun b h=>⟨(hb b h).1,(hb b h).2.1⟩) ae t
 have hL:=wP (bw t (dz s l))
 have fU:=GR hL (fun b h=>⟨(hb b h).1,(hb b h).2.1⟩)
 have hlen:=(oV (fc (bw t (dz s l))) (dz s l)).1
 have pJ:=kK l.length (fc (bw t (dz s l)))
 have hho:=Lw (ju s l t) (by unfold ju;omega) (eB (fc (bw t (dz s l))) (dz s l)) (fun b h=>⟨(fU b h).1,(fU b h).2.1⟩) (fun b h=>by
  obtain⟨_,_,_,c,hc,eD⟩:=fU b h
  rw[eD];have:=hb c hc;omega) ae t ht
 have fI:(l.map ab).length=l.length:=by simp
 have hzB:∀(g:Rows) (n:Nat) (bs:List PB),V.fz g (n+1) (CK bs)=some (CK bs):=fun g n bs=>by
  unfold CK;split
  ·exact aW _ _
  ·exact cm _ _ _
 rw[ad]at zK
 rw[<-ju]at I5
 have AS:∀(g:Rows) (x:Int),eC (eu g) 6 [.int .i64 l.length,CK (dz s l),.int .i64 x]=some [.int .i64 l.length,CK (dz s l),.int .i64 x]:=fun g x=>by simp only[ai,aj,aP,hzB,Option.map_some]
 have hzh:∀(g:Rows) (x y:Int),eC (eu g) 6 [.int .i64 x,CK (eB (fc (bw t (dz s l))) (dz s l)),.int .i64 y]=some [.int .i64 x,CK (eB (fc (bw t (dz s l))) (dz s l)),.int .i64 y]:=fun g x y=>by simp only[ai,aj,aP,hzB,Option.map_some]
 generalize CK (dz s l)=B1 at *
 generalize CK (eB (fc (bw t (dz s l))) (dz s l))=B2 at *
 by_cases xh:(64:Int)<(ju s l t:Int)
 ·have xi:64<ju s l t:=ae
  (repeat(first|((repeat(revert hN;revert N;apply Pn.out));refine wk (tw @ad.eq_1 (tw @xh @fI)) ?_;(repeat(refine Pn.mk ?_;intro N hN)))|((try apply Or.inl);refine⟨_,au.x (zK) (sd (tw @ad.eq_1 (tw @xh @fI))),?_⟩;refine hN _ _ ?_;clear hN N)))
  refine⟨_,au.x I5 (AS _ _),?_⟩
  refine hN _ _ ?_
  clear hN N
  (try((repeat(revert hN;revert N;apply Pn.out));refine wk @xh ?_;(repeat(refine Pn.mk ?_;intro N hN))))
  exact jL (.inl rfl) (r1:=.bool false) (r2:=.bool false) (sd @Nat.zero_add) (sd @Nat.zero_add) (by rw[xN,if_pos xi,decide_eq_false fun h=>h xi];simp only[fu,bF,cH,fD,Option.map_some])
 ·have xi:¬64<ju s l t:=ae
  (repeat(first|((repeat(revert hN;revert N;apply Pn.out));refine wk (tw @ad.eq_1 (tw @xh @fI)) ?_;(repeat(refine Pn.mk ?_;intro N hN)))|((try apply Or.inl);refine⟨_,au.x (zK) (sd (tw @ad.eq_1 (tw @xh @fI))),?_⟩;refine hN _ _ ?_;clear hN N)))
  refine⟨_,au.x I5 (AS _ _),?_⟩
  refine hN _ _ ?_
  clear hN N
  (try((repeat(revert hN;revert N;apply Pn.out));refine wk @xh ?_;(repeat(refine Pn.mk ?_;intro N hN))))
  refine .inl ⟨_,au.x hho (hzh _ _ _),?_⟩
  refine hN _ _ ?_
  clear hN N
  (try((repeat(revert hN;revert N;apply Pn.out));refine wk @Nat.zero_add ?_;(repeat(refine Pn.mk ?_;intro N hN))))
  exact jL (.inl rfl) (r1:=.bool (wK (ju s l t) (eB (fc (bw t (dz s l))) (dz s l)) t)) (r2:=.bool true) (sd @Nat.zero_add) (sd @Nat.zero_add) (by rw[xN,if_neg xi,decide_eq_true xi];simp only[fu,bF,cH,fD,Option.map_some])
theorem xo (t:Int):au Tryz.prog 130 [.int .i64 t] (.bool (js t 1 16)):=by
 refine au.body fF rfl fun hl n0=>?_
 clear hl
 have h:=mu t 1 16
 (repeat(first|((repeat(revert hN;revert N;apply Pn.out));refine wk @Nat.zero_add ?_;(repeat(refine Pn.mk ?_;intro N hN)))|((try apply Or.inl);refine⟨_,au.x (h) (sd @Nat.zero_add),?_⟩;refine hN _ _ ?_;clear hN N)))
 exact cu (b:=js t 1 16) (.inl rfl) (sd @Nat.zero_add) rfl
theorem zO (Yx:Fx) (s:aw) (hn:jj s.aZ) (hg:s.aZ.br.length<=1048576) (ht:s.aZ.aq.length<=1048576) (hs:∀t∈s.aZ.aq,t.ep.length<=1048576) (hl:s.cj.aq.length<=1048576):au Tryz.prog 75 [.agg (aH s)] (.bool (lI s)):=by
 refine au.body fF rfl fun jc n0=>?_
 clear jc
 by_cases h0:(s.cj.aq.length:Int)=0
 ·have hd:decide ((s.cj.aq.length:Int)=0)=true:=decide_eq_true h0
  (try((repeat(revert hN;revert N;apply Pn.out));refine wk (tw @aH.eq_1 @hd) ?_;(repeat(refine Pn.mk ?_;intro N hN))))
  exact cu (b:=false) (.inl rfl) (sd @Nat.zero_add) (k8 fun h=>by have:=h.some;omega)
 have hd:decide ((s.cj.aq.length:Int)=0)=false:=decide_eq_false h0
 have RD:=pf s.aZ s.cj.aq hn hg ht hs hl
 have Vr:=xo s.aX
 have key:au Tryz.prog 101 [.agg (ad s.aZ),.agg [.sl (s.cj.aq.map ab)],.int .i64 s.aX] (.ib [.bool (lI s),.int .i64 (if tu s.aZ&&rU s.aZ s.cj.aq then(if js s.aX 1 16 then(if 64<ju s.aZ s.cj.aq s.aX then 4 else 0)else 2)else 1)]):=by
  refine au.body fF rfl fun jc n0=>?_
  clear jc
  rw[ad]at RD
  cases hA:tu s.aZ&&rU s.aZ s.cj.aq
  ·rw[hA]at RD
   have lQ:lI s=false:=(k8 fun h=>by rw[nY.2 h.set,nI.2 h.kQ]at hA;cases hA).symm
   (repeat(first|((repeat(revert hN;revert N;apply Pn.out));refine wk @ad.eq_1 ?_;(repeat(refine Pn.mk ?_;intro N hN)))|((try apply Or.inl);refine⟨_,au.x (RD) (sd @ad.eq_1),?_⟩;refine hN _ _ ?_;clear hN N)))
   exact jL (.inl rfl) (r1:=.bool false) (r2:=.int .i64 1) (sd @Nat.zero_add) (sd @Nat.zero_add) (by rw[lQ];simp only[fu,bF,cH,fD,eK,Option.map_some];rfl)
  rw[hA]at RD
  simp only[Bool.and_eq_true]at hA
  have hS:=nY.1 hA.1
  have hP:=nI.1 hA.2
  cases hT:js s.aX 1 16
  ·rw[hT]at Vr
   have lQ:lI s=false:=(k8 fun h=>by have:=h.MR;rw[hT]at this;cases this).symm
   (repeat(first|((repeat(revert hN;revert N;apply Pn.out));refine wk @ad.eq_1 ?_;(repeat(refine Pn.mk ?_;intro N hN)))|((try apply Or.inl);refine⟨_,au.x (RD) (sd @ad.eq_1),?_⟩;refine hN _ _ ?_;clear hN N)|((try apply Or.inl);refine⟨_,au.x (Vr) (sd @ad.eq_1),?_⟩;refine hN _ _ ?_;clear hN N)))
   exact jL (.inl rfl) (r1:=.bool false) (r2:=.int .i64 2) (sd @Nat.zero_add) (sd @Nat.zero_add) (by rw[lQ];simp only[fu,bF,cH,fD,eK,Option.map_some];rfl)
  have OK:=eL hT
  rw[hT]at Vr
  have ev:=ML Yx s.aZ s.cj.aq s.aX ae ae hS hP
  rw[ad]at ev
  have hsy:lI s=pz s.aZ s.cj.aq s.aX:=by
   cases hB:pz s.aZ s.cj.aq s.aX
   ·exact(k8 fun h=>by have:=rJ.2 h.holds;rw[hB]at this;cases this).symm
   ·exact(E9 ⟨hS,hP,ae,hT,rJ.1 hB⟩).symm
  by_cases xh:64<ju s.aZ s.cj.aq s.aX
  ·rw[decide_eq_false fun h=>h xh]at ev
   have lQ:lI s=false:=(k8 fun h=>by have:=h.holds.1;unfold ju at xh;omega).symm
   (repeat(first|((repeat(revert hN;revert N;apply Pn.out));refine wk @ad.eq_1 ?_;(repeat(refine Pn.mk ?_;intro N hN)))|((try apply Or.inl);refine⟨_,au.x (RD) (sd @ad.eq_1),?_⟩;refine hN _ _ ?_;clear hN N)|((try apply Or.inl);refine⟨_,au.x (Vr) (sd @ad.eq_1),?_⟩;refine hN _ _ ?_;clear hN N)|((try apply Or.inl);refine⟨_,au.x (ev) (sd @ad.eq_1),?_⟩;refine hN _ _ ?_;clear hN N)))
   exact jL (.inl rfl) (r1:=.bool false) (r2:=.int .i64 4) (sd @Nat.zero_add) (sd @Nat.zero_add) (by rw[lQ,if_pos xh];simp only[fu,bF,cH,fD,eK,Option.map_some])
  ·rw[decide_eq_true xh,<-hsy]at ev
   (repeat(first|((repeat(revert hN;revert N;apply Pn.out));refine wk @ad.eq_1 ?_;(repeat(refine Pn.mk ?_;intro N hN)))|((try apply Or.inl);refine⟨_,au.x (RD) (sd @ad.eq_1),?_⟩;refine hN _ _ ?_;clear hN N)|((try apply Or.inl);refine⟨_,au.x (Vr) (sd @ad.eq_1),?_⟩;refine hN _ _ ?_;clear hN N)|((try apply Or.inl);refine⟨_,au.x (ev) (sd @ad.eq_1),?_⟩;refine hN _ _ ?_;clear hN N)))
   exact jL (.inl rfl) (r1:=.bool (lI s)) (r2:=.int .i64 0) (sd @Nat.zero_add) (sd @Nat.zero_add) (by rw[if_neg xh];simp only[fu,bF,cH,fD,eK,Option.map_some])
 generalize hcode:(if tu s.aZ&&rU s.aZ s.cj.aq then(if js s.aX 1 16 then(if 64<ju s.aZ s.cj.aq s.aX then(4:Int)else 0)else 2)else 1)=code at key
 rw[ad]at key
 cases hB:lI s
 ·rw[hB]at key
  (repeat(first|((repeat(revert hN;revert N;apply Pn.out));refine wk (tw @aH.eq_1 @hd) ?_;(repeat(refine Pn.mk ?_;intro N hN)))|((try apply Or.inl);refine⟨_,au.x (key) (sd (tw @aH.eq_1 @hd)),?_⟩;refine hN _ _ ?_;clear hN N)))
  exact cu (b:=false) (.inl rfl) (sd @Nat.zero_add) rfl
 ·rw[hB]at key
  have hP:=qR.1 hB
  have hc:code=0:=by
   rw[<-hcode,nY.2 hP.set,nI.2 hP.kQ,hP.MR]
   have:=hP.holds.1
   simp only[Bool.and_self,if_true]
   rw[if_neg (by unfold ju;omega)]
  rw[hc]at key
  (repeat(first|((repeat(revert hN;revert N;apply Pn.out));refine wk (tw @aH.eq_1 @hd) ?_;(repeat(refine Pn.mk ?_;intro N hN)))|((try apply Or.inl);refine⟨_,au.x (key) (sd (tw @aH.eq_1 @hd)),?_⟩;refine hN _ _ ?_;clear hN N)))
  exact cu (b:=true) (.inl rfl) (sd @Nat.zero_add) rfl
end Go.Proofs.YtiabgllilcfheaaGreat.V

namespace Go.Proofs.YtiabgllilcfheaaGreat.V
open Go.RowKit
variable {P:Program} {hs:Nat}
theorem Ka {q n i:Nat} {ops:Array Oper} {Q:Exit->Act->World->Prop} {K K':Act->World->Prop} {a:Act} {w:World} (re:∀(j:Nat) (o:Oper),ops[j]? =some o->∀c,o.op≠.defer c) (lQ:¬LetsOut Q) (hK:∀a w,K a w->K' a w) (h:wpOp P ops Q i K a w):wpOpIn (Fence.wide.inRound q) n P ops Q i K' a w:=by
 unfold wpOp at h
 unfold wpOpIn
 split at h
 ·rename_i ho;simp only[ho];exact hK _ _ h
 ·rename_i o ho
  simp only[ho]
  split at h
  ·rename_i hw
   rw[if_pos hw]
   replace h:=h.resolve_right fun hc=>lQ hc.2
   refine⟨fun _ _=>trivial,?_⟩
   rw[Oper.semAt_eq _ _ _ (re i o ho)]
   unfold Oper.wp at h
   generalize (execOp a.eval o).run P w=r at *
   cases r with
   |ok m w'=>
    cases m<;>simp only[Oper.upon,Oper.uponIn]at h ⊢
    case value=>exact hK _ _ h
    case skip=>exact hK _ _ h
    case defer=>exact hK _ _ h
    case enter f args=>
     refine⟨fun h=>by simp[Fence.wide]at h,CallsIn.inRound q (callsIn_wide.2 (h.mono fun e NP he=>?_))⟩
     cases e with
     |returned v=>exact hK _ _ he
     |panicked c=>exact he
     |outgrown=>exact he
    case row r args=>exact⟨fun h=>by simp[Fence.wide]at h,fun c cs _=>let ⟨v,NP,h1,s⟩:=h c cs;⟨v,NP,hK _ _ h1,stepsIn_wide.2 s⟩⟩
   |halt x w'=>cases x<;>simp only[Oper.upon,Oper.uponIn]at h ⊢;exact h
  ·rename_i hw
   rw[if_neg hw]
   exact⟨fun _ _=>trivial,hK _ _ h⟩
theorem zI {q n:Nat} {md:Region.Mode} {ops:Array Oper} {Q:Exit->Act->World->Prop} (re:∀(j:Nat) (o:Oper),ops[j]? =some o->∀c,o.op≠.defer c) (lQ:¬LetsOut Q):∀(fuel:Nat) (listed:Array Bool) (a:Act) (w:World),wpAny P md ops Q fuel listed a w->wpAnyIn (Fence.wide.inRound q) n P md ops Q fuel listed a w
 |0,_,_,_,h=>h
 |fuel+1,listed,_,_,h=>⟨h.1,fun i hi=>Ka re lQ (fun a w=>zI re lQ fuel _ a w) (h.2 i hi)⟩
def HU:Op->Bool
 | .defer _=>true
 |_=>false
theorem Md {ops:Array Oper} (h:(ops.all fun o=> !HU o.op)=true):∀(j:Nat) (o:Oper),ops[j]? =some o->∀c,o.op≠.defer c:=fun j o hj c hc=>by
 have:=Array.all_eq_true_iff_forall_mem.1 h o (Array.mem_of_getElem? hj)
 rw[hc]at this
 simp[HU]at this
theorem CE (hm:P.follows .mixedOrders=true) {nt site0 id q n:Nat} {ops:Array Oper} {vl:List bc} (h:tP P nt site0 ops true false=some vl) (re:∀(j:Nat) (o:Oper),ops[j]? =some o->∀c,o.op≠.defer c)
  {K:Env->ax->Prop} {env:Env} {σ:ax} {a:Act} {w:World} {D:Nat->Prop} {ι:Names} {Q:Exit->Act->World->Prop} (hv:wpOps (Sound P) true vl K env σ) (ev:St P hs nt D ι env σ a w)
  (hK:∀jF σ' a' w' D' ι',K jF σ'->Step hs D ι w D' ι' w'->St P hs nt D' ι' jF σ' a' w'->a'.defers=a.defers->Q .normal a' w'):(Code.region id ops true).wpIn (Fence.wide.inRound q) n P Q a w:=by
 have eP:∃hidden wg,allM (lU P ops nt site0 true false (kn ops) hidden) ops.toList 0=some wg/\vl=wg/\qm ops wg (kn ops)=true:=by
  unfold tP at h
  simp only[if_true,Bool.not_true,Bool.false_or]at h
  split at h
  ·rename_i wg h'
   split at h
   ·rename_i yI;simp at h;exact⟨_,wg,h',h.symm,yI⟩
   ·cases h
  ·cases h
 obtain⟨hidden,wg,eP,rfl,yI⟩:=eP
 obtain⟨uf,T0⟩:=ev.drew
 obtain⟨hlen,_⟩:=qd eP
 have yH:vl.length=ops.size:=by rw[hlen];simp
 have F3:=zH (X:=Sound P) (K:=K) (n:=σ.next) yI yH vl 0 (Array.replicate ops.size false) env σ.get (by simp) (by simp) (fun i hi=>by simp[hi]) (by simp[yH]) (fun k i h=>by
  exfalso
  rcases Nat.lt_or_ge k ops.size with hk|hk
  ·simp[hk]at h
  ·simp[Nat.not_lt.2 hk]at h) hv
 rw[yH]at F3
 have hw:=Aq (Q:=fun e a w=>e=.normal/\Q .normal a w) eP ops.size _ env σ.get a w.drew D ι (fun _=>False) F3 uf.vZ uf.used (fun _ h=>h.elim) uf.env uf.size fun jI g1 a1 w1 D1 ι1 U1 hk T S1 Ya E1 AR hd=>⟨rfl,hK jI ⟨g1,σ.next+1⟩ a1 w1 D1 ι1 hk (T0.trans T) ⟨S1,Ya.next,E1,AR⟩ hd⟩
 have fU:=zI (q:=q) (n:=n) (Q:=fun e a w=>e=.normal/\Q .normal a w) re (by rintro⟨_,_,hc,_⟩;cases hc) ops.size _ a w.drew hw
 refine wpIn_mono (wpIn_region_any (id:=id) hm fU) ?_
 rintro e a w ⟨rfl,h⟩
 exact h
end Go.Proofs.YtiabgllilcfheaaGreat.V

namespace Go.Proofs.YtiabgllilcfheaaGreat.V
open Go.RowKit Go.Shelf
attribute [local go_sem] Oper.semAt_some
def jm (n₀:Nat) (W W':World):Prop:=W.heap.size<=W'.heap.size/\(∀(b:Nat) (cells:Array Value) (T:TypeId) (fr:Nat×Nat),W.heap[b]? =some (Obj.cells cells T fr)->T≠138->T≠163->W'.heap[b]? =W.heap[b]?)/\∀k,k<n₀->k<W.heap.size->W'.heap[k]? =W.heap[k]?
theorem jm.trans {n₀:Nat} {A B C:World} (h:jm n₀ A B) (k:jm n₀ B C):jm n₀ A C:=⟨Nat.le_trans h.1 k.1,fun b cells T fr hb h1 h2=>by
 have e:=h.2.1 b cells T fr hb h1 h2
 rw[<-e]at hb ⊢
 exact k.2.1 b cells T fr hb h1 h2,fun b hb hs=>(k.2.2 b hb (Nat.lt_of_lt_of_le hs h.1)).trans (h.2.2 b hb hs)⟩
theorem jm.of {n₀:Nat} {W W':World} (h:Below W.heap.size W W'):jm n₀ W W':=⟨h.size,fun b cells T fr hb _ _=>h.block b (Array.getElem?_eq_some_iff.1 hb).1,fun k _ hs=>h.block k hs⟩
theorem jm.refl (n₀:Nat) (W:World):jm n₀ W W:=⟨Nat.le_refl _,fun _ _ _ _ _ _ _=>rfl,fun _ _ _=>rfl⟩
theorem jm.b {n₀ m:Nat} (hm:n₀<=m) (W:World) (l:Nat) (o o':Obj) (hl:m<=l) (h:W.heap[l]? =some o) (hc:o.isCells=false) (_:o.isWalk=false):jm n₀ W (W.putObj l o'):=by
 refine⟨by simp,fun b cells T fr hb _ _=>?_,fun k hk _=>World.putObj_heap_other ae⟩
 by_cases iK:b=l
 ·subst iK;rw[h]at hb;cases hb;cases hc
 ·exact World.putObj_heap_other iK
def N1 (bs:List PB):List Value:=bs.flatMap fun b=>[.int .i64 b.a,.int .i64 b.b,.int .i64 b.s]
theorem KM (bs:List PB) (b:PB):N1 (bs++[b])=N1 bs++[.int .i64 b.a,.int .i64 b.b,.int .i64 b.s]:=by simp[N1]
def pD (s:ay) (l:List aa) (pre:List (QP l)):List PB:=(pre.map (·.1)).flatMap (BO s l)
theorem Au (s:ay) (l:List aa) (pre:List (QP l)) (x:QP l):pD s l (pre++[x])=pD s l pre++BO s l x.1:=by simp[pD]
theorem KL (s:ay) (l:List aa) (x:Nat×Nat×Int):(BO s l x).length<=1:=by
 unfold BO;split<;>simp
theorem KN (s:ay) (l:List aa) (pre:List (QP l)):(pD s l pre).length<=pre.length:=by
 unfold pD
 induction pre with
 |nil=>simp
 |cons x r ih=>
  have:=KL s l x.1
  simp only[List.map_cons,List.flatMap_cons,List.length_append,List.length_cons]at ih ⊢
  omega
theorem Bd (l:List aa) (i:Nat):∀m,(l9 l i m).length<=m
 |0=>by simp[l9]
 |m+1=>by
  rw[oN,List.length_append]
  have:=Bd l i m
  have:(EO l i (1-(m:Int))).length<=1:=by unfold EO;split<;>simp
  omega
theorem EP (l:List aa):∀n,(mJ l n).length<=n*2
 |0=>by simp[mJ]
 |n+1=>by
  rw[nT,List.length_append]
  have:=EP l n
  have:=Bd l n 2
  omega
theorem D5 {β:Type} (B:Nat) (c:Array Value) (t:TypeId) (fr:Nat×Nat):Own (fun(_:β) W=>W.heap[B]? =some (.cells c t fr)):=fun _ X _ row h hg hr=>(hg.block B (Array.getElem?_eq_some_iff.1 h).1 (fun e=>by
 obtain⟨o,ho,hc⟩:=hr B e.symm
 rw[h]at ho;cases ho;cases hc)).trans h
theorem jm.app {n₀:Nat} {W w1:World} {B k:Nat} {v v':Value} {xs:List Value} {tmp:Obj} (hv:Boxed W B 138 v) (fI:W.ownsRow n₀ 163 3 v k xs) (HG:(W.alloc tmp).grownBy w1 v.ownBlock) (hb:Below n₀ W (w1.setCell ⟨B,0,none⟩ v')):jm n₀ W (w1.setCell ⟨B,0,none⟩ v'):=by
 refine⟨hb.size,fun b cells T fr h h1 h2=>?_,fun k hk _=>hb.block k hk⟩
 have eM:=(Array.getElem?_eq_some_iff.1 h).1
 have hbB:b≠B:=by
  rintro rfl
  rw[show W.heap[b]? = _ from hv]at h
  cases h
  exact h1 rfl
 have Xg:some b≠v.ownBlock:=by
  rcases fI.2 with⟨rfl,_⟩|⟨g,cap,cur,rfl,_,hg,_⟩
  ·simp[Value.ownBlock]
  ·intro e
   obtain rfl:b=g:=by simpa[Value.ownBlock]using e
   rw[hg]at h;cases h
   exact h2 rfl
 refine(Below.heap_setCell w1 ⟨B,0,none⟩ v' b hbB).trans ?_
 exact(HG.block b (by simp;omega) Xg).trans (Below.heap_alloc W tmp b eM)
theorem Wd {w:World} {vS:Value} {l:List aa} (hP:rP w vS l):Ku (jm w.heap.size) vS l where
 refl:=jm.refl _
 trans:=jm.trans
 of:=jm.of
 size h:=h.1
 typed h:=h.2.1
 pl {W W'} h hp:=by
  obtain⟨A,c,rfl,hm,hc⟩:=hp.sl
  refine⟨A,c,rfl,hm,?_⟩
  by_cases hl:l=[]
  ·exact .inl hl
  have lH:0<l.length:=List.length_pos_iff.2 hl
  rcases hc with h0|⟨b,o,rfl,mT⟩
  ·exact absurd h0 hl
  obtain⟨A',c',e,_,lZ⟩:=hP.sl
  cases e
  rcases lZ with h0|⟨b',o',e,hcell'⟩
  ·exact absurd h0 hl
  cases e
  have hb:=xx (hcell' 0 lH).1
  have hk:=h.2.2 b hb (xx (mT 0 lH).1)
  refine .inr ⟨b,o,rfl,fun i hi=>?_⟩
  have DZ:∀x,W'.cell? ⟨b,x,none⟩=W.cell? ⟨b,x,none⟩:=fun x=>World.cell?_of_block hk
  rw[DZ,DZ,DZ]
  exact mT i hi
theorem rrE {P:Program} {nt site0:Nat} {ops:Array Oper} {vl:List bc} (_:BQ P ops site0 false (kn ops) (um P false ops.toList 0) ops.toList 0=some vl:=by(conv=>lhs;cbv)<;>exact rfl) (h:tP P nt site0 ops true false=some vl:=by kernel_rfl):tP P nt site0 ops true false=some vl:=h
theorem LZ (l:List Value) (d:Value):l=(List.range l.length).map fun i=>(⟨l⟩:Array Value).getD i d:=by
 refine List.ext_getElem (by simp) fun i h1 h2=>?_
 simp[h1]
theorem GD {X:gP} {d:Bool} {ops:List bc} {K:Env->ax->Prop} {env:Env} {σ:ax} (h:er X (.fo d ops) (fun _=>K) env σ):wpOps X d ops K env σ:=h
theorem yl (W:World) (T:TypeId) (x y z:Value):∀(j:Nat) (u:Value),[x,y,z][j]? =some u->(W.alloc (.cells #[x,y,z] T)).cell? ((⟨W.heap.size,0,none⟩:Addr).add j)=some u:=fun j u h=>by
 have hb:(W.alloc (.cells #[x,y,z] T)).heap[W.heap.size]? =some (.cells #[x,y,z] T (0,0)):=World.alloc_heap_new _ _
 have e:∀k,(W.alloc (.cells #[x,y,z] T)).cell? ⟨W.heap.size,k,none⟩=(#[x,y,z]:Array Value)[k]? :=fun k=>by
  unfold World.cell?
  rw[show(W.alloc (.cells #[x,y,z] T)).heap[(⟨W.heap.size,k,none⟩:Addr).block]? = _ from hb]
  rfl
 rw[show(⟨W.heap.size,0,none⟩:Addr).add j=⟨W.heap.size,j,none⟩ by simp[Addr.add];exact fun h=>h.symm,e]
 simpa using h
def KS (n b:Nat):Names:=fun id=>if id=⟨1,0⟩then some ⟨n,2,2,none⟩else if id=⟨2,0⟩then some ⟨n+1,1,1,none⟩else if id=⟨3,0⟩then some ⟨n+1+1,1,1,none⟩else if id=⟨4,0⟩then some ⟨b,2,2,none⟩else if id=⟨5,0⟩then some ⟨n+1+1+1,1,1,none⟩else none
def P4 (s:ay) (l:List aa) (i k:Nat):Rows:=fun id=>if id=⟨1,0⟩then some ⟨false,2,[ad s]⟩else if id=⟨2,0⟩then some ⟨false,1,[[.sl (l.map ab)]]⟩else if id=⟨4,0⟩then some ⟨false,2,[[.int .i64 (i:Int),.int .i64 (k:Int)]]⟩else none
def Q1 (s:ay) (l:List aa) (i k:Nat) (d:Int):Env:=cw [.agg (ad s),.agg [.sl (l.map ab)],.ptr ⟨1,0⟩ 0 0,.ptr ⟨2,0⟩ 0 0,.ck,.ptr ⟨3,0⟩ 0 0,.ptr ⟨4,0⟩ 0 0,.int .i64 d,.undef,.agg [.sl (l.map ab)],.fn 190 [.ptr ⟨5,0⟩ 0 0],.agg [.int .i64 (i:Int),.int .i64 (k:Int)],.int .i64 d]
theorem GO {P:Program} {W:World} {D:Nat->Prop} {ι:Names} {B:uS} {cells:Array Value} {T:TypeId} {cs:List AV} (hk:B.k=none) (hb:W.heap[B.b]? =some (.cells cells T (0,0))) (hC:cells.size=B.C) (hz:B.sz=cs.length) (hl:cs.length=cells.size) (hf:∀a∈cs,a.cell=true) (hr:∀(j:Nat) (a:AV),cs[j]? =some a->∃v,cells[j]? =some v/\dy P W D ι a v):jk P W D ι B ⟨false,cs.length,[cs]⟩:=
 mN.obj ⟨hz,⟨cells,T,hb,hC⟩,by simp;omega,fun c hc=>by simp at hc;rw[hc],fun c hc=>by simp at hc;rw[hc];exact hf,fun i j c a hi hj=>by
  match i,hi with
  |0,hi=>
   simp at hi;subst hi
   obtain⟨v,h1,h2⟩:=hr j a hj
   exact⟨v,by simp[World.cell?,hb,h1],h2⟩
  |i+1,hi=>simp at hi⟩ hk
theorem LN:(Tryz.prog.info? 163).map (fun i=>(i.zero,i.size,i.bytes))=some (some (.agg #[.int .i64 0,.int .i64 0,.int .i64 0]),3,24):=by kernel_rfl
end Go.Proofs.YtiabgllilcfheaaGreat.V

namespace Go.Proofs.YtiabgllilcfheaaGreat.V
open Go.RowKit Go.Shelf
attribute [local go_sem] Oper.semAt_some
attribute [local irreducible] er wpOps fY Call
attribute [local go_sem] aF fC eR fN fK du upd cw K.av cQ AV.cells AV.cell rowOf rowsOf part ld rowAt bK cq dH dX gG bP dd eh fJ fa dw ea db da dM dP bV bd cU bU cW cV dV eb dZ cR bY dc dY bQ aD cY cF gF bD cL bW aY dn bj dI AV.undef bH bJ dQ dW dL dK cK ef eo cz ee ec cX cZ List.getD_cons_zero List.getD_cons_succ List.getD_nil List.all_cons List.all_nil Bool.and_true Bool.true_and Bool.and_self Bool.not_true Bool.not_false Option.map_some Option.map_none Option.bind_some Option.bind_none List.length_cons List.length_nil List.take_succ_cons List.take_zero List.take_nil List.drop_succ_cons List.drop_zero List.drop_nil List.head?_cons List.map_cons List.map_nil List.getElem?_cons_zero List.getElem?_cons_succ List.cons_append List.nil_append List.append_nil List.length_map List.set_cons_zero List.set_cons_succ Nat.reduceMul eq_self Int.toNat_natCast Int.natCast_nonneg and_self true_and and_true decide_true decide_false Bool.false_eq_true Nat.zero_add Nat.add_zero List.contains_cons List.contains_nil Bool.or_false Bool.false_or beq_self_eq_true Nat.reduceBEq ne_eq not_true_eq_false not_false_eq_true Id.mk.injEq false_and and_false Nat.reduceLT Int.reduceLE Int.reduceLT Int.reduceToNat Int.reduceNeg Int.reduceAdd Nat.le_refl List.length_append beq_true beq_false Bool.not_eq_eq_eq_not or_false false_or eu ai aj aP bh bZ cm aW bx aK bf cP bI
theorem KQ (s:ay) (l:List aa) (hF:jV s) (hA:gH s l) (w:World) (Ag At:Option Addr) (ng cg nt ct:Nat) (vS:Value) (hT:ly Tryz.prog w (fun b=>b<w.heap.size) (.agg (ad s)) (.agg #[.slice Ag ng cg,.slice At nt ct])) (hP:rP w vS l):
  CallsIn Fence.wide 5 Tryz.prog 149 #[.agg #[.slice Ag ng cg,.slice At nt ct],.agg #[vS]] w fun e W'=>∃v,e=.returned v/\W'.ownsRow w.heap.size 163 3 v (dz s l).length (N1 (dz s l))/\(v=.slice none 0 0↔dz s l=[])/\Below w.heap.size w W':=by
 obtain⟨A,cp,rfl,_,_⟩:=hP.sl
 obtain⟨i0,hi,V8,AR,sC⟩:=info_parts LN
 refine callsIn_of_wp_marks Tryz.func149 rfl trivial ?_ rfl
 simp only[Tryz.ntmps149,List.size_toArray,List.length_cons,List.length_nil,Nat.reduceAdd,Nat.reduceSub,Array.replicate_succ,Array.replicate_zero,List.push_toArray,List.append_toArray,List.nil_append,List.cons_append]
 gi_wp2_with (refine⟨trivial,?_⟩;gi_at_call 177;refine(Cx _ _ _).mono ?_;rintro e w' ⟨rfl,rfl⟩)
 have bT:((w.alloc (.cells #[.slice Ag ng cg,.slice At nt ct] 27)).heap[w.heap.size]?)=some (.cells #[.slice Ag ng cg,.slice At nt ct] 27 (0,0)):=World.alloc_heap_new _ _
 obtain⟨w1,tD⟩:∃w1,w.alloc (.cells #[.slice Ag ng cg,.slice At nt ct] 27)=w1:=⟨_,rfl⟩
 have UG:w1.heap.size=w.heap.size+1:=by rw[<-tD];simp
 have C6:Below w.heap.size w w1:=by rw[<-tD];exact(Below.refl _ w).alloc (Nat.le_refl _) _
 rw[tD]at bT ⊢
 clear tD
 have bA:=Boxed.new w1 30 (.slice A l.length cp)
 have bO:=Boxed.new (w1.alloc (.cells #[.slice A l.length cp] 30)) 138 (.slice none 0 0)
 have bN:=Boxed.new ((w1.alloc (.cells #[.slice A l.length cp] 30)).alloc (.cells #[.slice none 0 0] 138)) 30 (.slice A l.length cp)
 replace bA:=(bA.alloc (.cells #[.slice none 0 0] 138)).alloc (.cells #[.slice A l.length cp] 30)
 replace bO:=bO.alloc (.cells #[.slice A l.length cp] 30)
 simp only[World.size_alloc,UG]at bA bO bN
 have lP:Below w1.heap.size w1 (((w1.alloc (.cells #[.slice A l.length cp] 30)).alloc (.cells #[.slice none 0 0] 138)).alloc (.cells #[.slice A l.length cp] 30)):=(((Below.refl _ w1).alloc (Nat.le_refl _) _).alloc (by simp) _).alloc (by simp;omega) _
 have e9:(((w1.alloc (.cells #[.slice A l.length cp] 30)).alloc (.cells #[.slice none 0 0] 138)).alloc (.cells #[.slice A l.length cp] 30)).heap.size=w.heap.size+4:=by simp;omega
 obtain⟨W0,hW0⟩:∃W0,((w1.alloc (.cells #[.slice A l.length cp] 30)).alloc (.cells #[.slice none 0 0] 138)).alloc (.cells #[.slice A l.length cp] 30)=W0:=⟨_,rfl⟩
 rw[hW0]at bA bO bN lP e9 ⊢
 clear hW0
 have DX:Below w.heap.size w W0:=C6.trans (lP.mono ae)
 replace bT:=(lP.block w.heap.size ae).trans bT
 have hP0:rP W0 (.slice A l.length cp) l:=hP.below DX
 have kl:=Wd hP
 have iK:=sK (s:=s) hA.1
 refine wpIn_rangeFunc_ownH (n:=5) rfl ae (gf:=190) (lb:= #[.pointer (some ⟨w.heap.size+1+1+1,0,none⟩)]) rfl trivial (enters_of Tryz.func190 (by kernel_rfl) rfl)
  (L9 l hA.1 (w.heap.size+1+1+1) (5-1) ae (.slice A l.length cp) (jm w.heap.size) kl W0 bN hP0) jm.trans (jm.b ae) (Below.refl _ _) (fun _=>rfl)
  (fun pre W=>((∃v,Boxed W (w.heap.size+1+1) 138 v/\W.ownsRow w.heap.size 163 3 v (pD s l pre).length (N1 (pD s l pre))/\(v=.slice none 0 0↔pD s l pre=[]))/\(Boxed W (w.heap.size+1) 30 (.slice A l.length cp)/\W.heap[w.heap.size]? =some (.cells #[.slice Ag ng cg,.slice At nt ct] 27 (0,0))))/\Below w.heap.size w W)
  (fun _ _ _=>False)
  (OwnFrom.and (OwnFrom.and (Own.from (holdsRow_own w.heap.size (w.heap.size+1+1) 138 163 3 (fun pre=>(pD s l pre).length) (fun pre=>N1 (pD s l pre)) (fun pre v=>v=.slice none 0 0↔pD s l pre=[])) _) (OwnFrom.and (Own.from (boxed_own _ _ _) _) (Own.from (D5 _ _ _ _) _))) (ownFrom_below (Nat.le_refl _) ae))
  (fun _ _ _ _ _ hs _ _=>hs)
  ⟨⟨⟨_,bO,World.ownsRow_nil _ _ _ _,by simp[pD]⟩,bA,bT⟩,DX⟩
  (fun x a' W=>∃Bx,w.heap.size+1+1<Bx/\W.heap[Bx]? =some (.cells #[.int .i64 (x.1.1:Int),.int .i64 (x.1.2.1:Int)] 221 (0,0))/\a'={tmps:= #[.agg #[.slice Ag ng cg,.slice At nt ct],.agg #[.slice A l.length cp],.pointer (some ⟨w.heap.size,0,none⟩),.pointer (some ⟨w.heap.size+1,0,none⟩),.slice none 0 0,.pointer (some ⟨w.heap.size+1+1,0,none⟩),.pointer (some ⟨Bx,0,none⟩),.int .i64 x.1.2.2,undef,.agg #[.slice A l.length cp],.func (.func 190) #[] #[.pointer (some ⟨w.heap.size+1+1+1,0,none⟩)],.agg #[.int .i64 (x.1.1:Int),.int .i64 (x.1.2.1:Int)],.int .i64 x.1.2.2,undef,undef,undef,undef,undef,undef,undef,undef,undef,undef,undef,undef,undef,undef,undef,undef,undef,undef,undef,undef,undef,undef,undef,undef,undef,undef,undef,undef,undef],defers:=[]})
  (fun x a' _ X Y row hs hg hr=>by obtain⟨Bx,h1,h2,h3⟩:=hs;exact⟨Bx,h1,D5 Bx _ _ _ () X Y row h2 hg (fun r e=>(hr r e).2),h3⟩)
  ?assign ?body ?done ?stop
 case assign=>
  rintro q pre ⟨⟨x0,x1,x2⟩,hx⟩ W K ⟨⟨⟨v,hv,fI,hnil⟩,bA1,bT1⟩,hB⟩ hK
  simp only[Ht]
  gi_wp2
  exact hK _ _ ((KeepsOthers.alloc _ _).from _) (jm.of ((Below.refl _ W).alloc (Nat.le_refl _) _)) ⟨⟨⟨v,hv.alloc _,fI.alloc _,hnil⟩,bA1.alloc _,(Below.heap_alloc _ _ _ (Array.getElem?_eq_some_iff.1 bT1).1).trans bT1⟩,hB.alloc hB.size _⟩ ⟨W.heap.size,hv.lt,World.alloc_heap_new _ _,rfl⟩
 case body=>
  rintro q pre ⟨⟨x0,x1,x2⟩,hx⟩ a' W hq hqr ⟨⟨⟨v,hv,fI,hnil⟩,bA1,bT1⟩,hB⟩ ⟨Bx,hBx,bX,rfl⟩ eM
  obtain⟨HO,Ko,wL,-⟩:=id hx
  simp only at HO Ko wL bX
  obtain⟨A',c',e',_,hc⟩:=(hP.below hB).sl
  cases e'
  have eD:∃b o,A=some ⟨b,o,none⟩/\W.cell? ⟨b,o+x0*3+2,none⟩=some (.int .i64 (aQ l x0).bp)/\W.cell? ⟨b,o+x1*3+2,none⟩=some (.int .i64 (aQ l x1).bp):=by
   rcases hc with rfl|⟨b,o,rfl,mT⟩
   ·simp at HO
   ·exact⟨b,o,rfl,by rw[Nat.add_assoc];exact(mT x0 HO).2.2,by rw[Nat.add_assoc];exact(mT x1 Ko).2.2⟩
  obtain⟨b,o,rfl,cP0,cP1⟩:=eD
  have cT0:W.cell? ⟨w.heap.size,0,none⟩=some (.slice Ag ng cg):=by simp[World.cell?,bT1]
  have cT1:W.cell? ⟨w.heap.size,1,none⟩=some (.slice At nt ct):=by simp[World.cell?,bT1]
  have cX0:W.cell? ⟨Bx,0,none⟩=some (.int .i64 (x0:Int)):=by simp[World.cell?,bX]
  have cX1:W.cell? ⟨Bx,1,none⟩=some (.int .i64 (x1:Int)):=by simp[World.cell?,bX]
  have cA:=bA1.cell
  have dP0:W.drew.cell? ⟨b,o+x0*3+2,none⟩=some (.int .i64 (aQ l x0).bp):=cP0
  have dP1:W.drew.cell? ⟨b,o+x1*3+2,none⟩=some (.int .i64 (aQ l x1).bp):=cP1
  have dT0:W.drew.cell? ⟨w.heap.size,0,none⟩=some (.slice Ag ng cg):=cT0
  have dT1:W.drew.cell? ⟨w.heap.size,1,none⟩=some (.slice At nt ct):=cT1
  have dX0:W.drew.cell? ⟨Bx,0,none⟩=some (.int .i64 (x0:Int)):=cX0
  have dX1:W.drew.cell? ⟨Bx,1,none⟩=some (.int .i64 (x1:Int)):=cX1
  have dA:W.drew.cell? ⟨w.heap.size+1,0,none⟩=some (.slice (some ⟨b,o,none⟩) l.length cp):=cA
  have sZ:∀i,i<l.length->aQ l i∈l:=fun i hi=>by
   unfold aQ
   rw[List.getD_eq_getElem?_getD,List.getElem?_eq_getElem hi]
   exact List.getElem_mem hi
  have Zi:=mixed
  have Xo:=hA.1.nO
  have Xh:=KP s hF (aQ l x0).bp x2 (aQ l x1).bp (hA.2 _ (sZ x0 HO)) (hA.2 _ (sZ x1 Ko)) (jo ae)
  have hTW:ly Tryz.prog W (fun b=>b<w.heap.size) (.agg (ad s)) (.agg #[.slice Ag ng cg,.slice At nt ct]):=hT.frame (fun b hb=>hB.block b hb) (fun _ h=>h)
  have hAW:ly Tryz.prog W (fun b=>b<w.heap.size) (.sl (l.map ab)) (.slice (some ⟨b,o,none⟩) l.length cp):=hP.fy.frame (fun b hb=>hB.block b hb) (fun _ h=>h)
  obtain⟨fT,hT0,hT1⟩:∃f:Nat->Value,(∀j,j<(ad s).length->(#[Value.slice Ag ng cg,.slice At nt ct])[j]? =some (f j))/\∀j a,(ad s)[j]? =some a->ly Tryz.prog W (fun b=>b<w.heap.size) a (f j):=by
   cases hTW with
   |agg _ _ f _ _ h3 h4=>exact⟨f,h3,h4⟩
  have ev:St Tryz.prog W.heap.size 42 (fun b=>b<w.heap.size) (KS w.heap.size Bx) (Q1 s l x0 x1 x2) ⟨P4 s l x0 x1,1⟩ {tmps:= #[.agg #[.slice Ag ng cg,.slice At nt ct],.agg #[.slice (some ⟨b,o,none⟩) l.length cp],.pointer (some ⟨w.heap.size,0,none⟩),.pointer (some ⟨w.heap.size+1,0,none⟩),.slice none 0 0,.pointer (some ⟨w.heap.size+1+1,0,none⟩),.pointer (some ⟨Bx,0,none⟩),.int .i64 x2,undef,.agg #[.slice (some ⟨b,o,none⟩) l.length cp],.func (.func 190) #[] #[.pointer (some ⟨w.heap.size+1+1+1,0,none⟩)],.agg #[.int .i64 (x0:Int),.int .i64 (x1:Int)],.int .i64 x2,undef,undef,undef,undef,undef,undef,undef,undef,undef,undef,undef,undef,undef,undef,undef,undef,undef,undef,undef,undef,undef,undef,undef,undef,undef,undef,undef,undef,undef],defers:=[]} W:=by
   have n1:(KS w.heap.size Bx) ⟨1,0⟩=some ⟨w.heap.size,2,2,none⟩:=rfl
   have n2:(KS w.heap.size Bx) ⟨2,0⟩=some ⟨w.heap.size+1,1,1,none⟩:=rfl
   have n3:(KS w.heap.size Bx) ⟨3,0⟩=some ⟨w.heap.size+1+1,1,1,none⟩:=rfl
   have n4:(KS w.heap.size Bx) ⟨4,0⟩=some ⟨Bx,2,2,none⟩:=rfl
   have n5:(KS w.heap.size Bx) ⟨5,0⟩=some ⟨w.heap.size+1+1+1,1,1,none⟩:=rfl
   have rp:∀(id:Id) (B:uS),(KS w.heap.size Bx) id=some B->B.k=none->dy Tryz.prog W (fun b=>b<w.heap.size) (KS w.heap.size Bx) (.ptr id 0 0) (.pointer (some ⟨B.b,0,none⟩)):=fun id B h hk=>by
    have:=dy.ptr (P:=Tryz.prog) (w:=W) (D:=fun b=>b<w.heap.size) id 0 0 B h hk
    simpa using this
   have ri:∀n:Int,dy Tryz.prog W (fun b=>b<w.heap.size) (KS w.heap.size Bx) (.int .i64 n) (.int .i64 n):=fun n=>.fy _ _ (.int _ _)
   have hA1:ly Tryz.prog W (fun b=>b<w.heap.size) (.agg [.sl (l.map ab)]) (.agg #[.slice (some ⟨b,o,none⟩) l.length cp]):=.agg _ _ (fun _=>.slice (some ⟨b,o,none⟩) l.length cp) rfl (fun a ha=>by simp at ha;rw[ha];rfl) (fun j hj=>by match j,hj with|0,_=>rfl|j+1,hj=>simp at hj) (fun j a ha=>by match j,ha with|0,ha=>simp at ha;subst ha;exact hAW|j+1,ha=>simp at ha)
   refine⟨⟨Nat.le_refl _,fun b hb=>Nat.lt_of_lt_of_le hb hB.size,fun id r hg=>?_,fun id kV r r' B B' h _ hw=>?_⟩,fun id hid=>?_,fun t=>?_,rfl⟩
   ·replace hg:P4 s l x0 x1 id=some r:=hg
    unfold P4 at hg
    split at hg
    ·rename_i e;subst e;injection hg with hg;subst hg
     exact⟨_,n1,GO (cs:=ad s) rfl bT1 rfl rfl rfl (fun a ha=>by simp[ad]at ha;rcases ha with rfl|rfl<;>rfl) (fun j a ha=>⟨_,hT0 j (List.getElem?_eq_some_iff.1 ha).1,.fy _ _ (hT1 j a ha)⟩),fun h=>(by cases h),fun h=>(by cases h)⟩
    ·split at hg
     ·rename_i e;subst e;injection hg with hg;subst hg
      exact⟨_,n2,GO (cs:=[.sl (l.map ab)]) rfl bA1 rfl rfl rfl (fun a ha=>by simp at ha;rw[ha];rfl) (fun j a ha=>by match j,ha with|0,ha=>simp at ha;subst ha;exact⟨_,rfl,.fy _ _ hAW⟩|j+1,ha=>simp at ha),fun h=>(by cases h),fun h=>(by cases h)⟩
     ·split at hg
      ·rename_i e;subst e;injection hg with hg;subst hg
       exact⟨_,n4,GO (cs:=[.int .i64 (x0:Int),.int .i64 (x1:Int)]) rfl bX rfl rfl rfl (fun a ha=>by simp at ha;rcases ha with rfl|rfl<;>rfl) (fun j a ha=>by match j,ha with|0,ha=>simp at ha;subst ha;exact⟨_,rfl,ri _⟩|1,ha=>simp at ha;subst ha;exact⟨_,rfl,ri _⟩|j+2,ha=>simp at ha),fun h=>(by cases h),fun h=>(by cases h)⟩
      ·cases hg
   ·exfalso
    replace h:P4 s l x0 x1 id=some r:=h
    unfold P4 at h
    split at h
    ·injection h with h;subst h;cases hw
    ·split at h
     ·injection h with h;subst h;cases hw
     ·split at h
      ·injection h with h;subst h;cases hw
      ·cases h
   ·left
    unfold KS at hid
    repeat' (split at hid)
    all_goals first|(rename_i e;subst e;exact Nat.zero_lt_one)|exact absurd rfl hid
   ·match t with
    |0=>exact .fy _ _ hTW
    |1=>exact .fy _ _ hA1
    |2=>exact rp _ _ n1 rfl
    |3=>exact rp _ _ n2 rfl
    |4=>exact .fy _ _ .ck
    |5=>exact rp _ _ n3 rfl
    |6=>exact rp _ _ n4 rfl
    |7=>exact ri _
    |8=>exact dy.undef
    |9=>exact .fy _ _ hA1
    |10=>exact .fn _ _ _ (fun _=>.pointer (some ⟨w.heap.size+1+1+1,0,none⟩)) (by kernel_rfl) rfl (fun j hj=>by match j,hj with|0,_=>rfl|j+1,hj=>simp at hj) (fun j a ha=>by match j,ha with|0,ha=>simp at ha;subst ha;exact rp _ _ n5 rfl|j+1,ha=>simp at ha)
    |11=>exact .agg _ _ (fun j=>if j=0 then .int .i64 (x0:Int)else .int .i64 (x1:Int)) rfl (fun a ha=>by simp at ha;rcases ha with rfl|rfl<;>rfl) (fun j hj=>by match j,hj with|0,_=>rfl|1,_=>rfl|j+2,hj=>simp at hj;omega) (fun j a ha=>by match j,ha with|0,ha=>simp at ha;subst ha;exact ri _|1,ha=>simp at ha;subst ha;exact ri _|j+2,ha=>simp at ha)
    |12=>exact ri _
    |13=>exact dy.undef
    |14=>exact dy.undef
    |15=>exact dy.undef
    |16=>exact dy.undef
    |17=>exact dy.undef
    |18=>exact dy.undef
    |19=>exact dy.undef
    |20=>exact dy.undef
    |21=>exact dy.undef
    |22=>exact dy.undef
    |23=>exact dy.undef
    |24=>exact dy.undef
    |25=>exact dy.undef
    |26=>exact dy.undef
    |27=>exact dy.undef
    |28=>exact dy.undef
    |29=>exact dy.undef
    |30=>exact dy.undef
    |31=>exact dy.undef
    |32=>exact dy.undef
    |33=>exact dy.undef
    |34=>exact dy.undef
    |35=>exact dy.undef
    |36=>exact dy.undef
    |37=>exact dy.undef
    |38=>exact dy.undef
    |39=>exact dy.undef
    |40=>exact dy.undef
    |41=>exact dy.undef
    |t+42=>exact dy.undef
  have hV:wpOps (Call Tryz.prog) true ?vl (fun e _=>e 5=.ptr ⟨3,0⟩ 0 0/\e 6=.ptr ⟨4,0⟩ 0 0/\e 8=.int .i64 (iI s (aQ l x0).bp x2 (aQ l x1).bp)) (Q1 s l x0 x1 x2) ⟨P4 s l x0 x1,1⟩:= ?hv
  gi_wp2
  refine CE mixed (rrE (nt:=42) (site0:=149005000)) (Md (by kernel_rfl)) (mv (fun _ _ _ _ h=>iC mixed h) lT (fun _ _ h=>h) _ _ _ hV) ev ?_
  rintro e1 σ1 ⟨tm,df⟩ w3 D1 ι1 ⟨h5,h6,h8⟩ T1 uW F6
  case hv=>
   refine GD ?_
   have e0:=fR HO
   have e1:=fR Ko
   (repeat(first|((repeat(revert hN;revert N;apply Pn.out));refine wk (tw @e0 (tw @e1 (tw @Q1.eq_1 (tw @P4.eq_1 (tw @ab.eq_1 @ad.eq_1))))) ?_;(repeat(refine Pn.mk ?_;intro N hN)))|((try apply Or.inl);refine⟨_,au.x (Xh) (sd (tw @e0 (tw @e1 (tw @Q1.eq_1 (tw @P4.eq_1 (tw @ab.eq_1 @ad.eq_1)))))),?_⟩;refine hN _ _ ?_;clear hN N)))
   exact⟨sd @Q1.eq_1,sd @Q1.eq_1,sd @Q1.eq_1⟩
  ·have DY:Below W.heap.size W w3:=T1.below
   have l6:∀id B,KS w.heap.size Bx id=some B->ι1 id=some B:=T1.names
   have p5:tm.getD 5 undef=.pointer (some ⟨w.heap.size+1+1,0,none⟩):=by
    have g:=uW.env 5
    rw[h5]at g
    obtain⟨B,e,hB,_⟩:=jy g
    have h:=l6 ⟨3,0⟩ ⟨w.heap.size+1+1,1,1,none⟩ rfl
    rw[h]at hB;injection hB with hB;subst hB
    simpa using e
   have p6:tm.getD 6 undef=.pointer (some ⟨Bx,0,none⟩):=by
    have g:=uW.env 6
    rw[h6]at g
    obtain⟨B,e,hB,_⟩:=jy g
    have h:=l6 ⟨4,0⟩ ⟨Bx,2,2,none⟩ rfl
    rw[h]at hB;injection hB with hB;subst hB
    simpa using e
   have p8:tm.getD 8 undef=.int .i64 (iI s (aQ l x0).bp x2 (aQ l x1).bp):=by
    have g:=uW.env 8
    rw[h8]at g
    exact ew g
   have e9:=uW.size
   obtain⟨tl⟩:=tm
   obtain⟨f,NK,hf⟩:∃f:Nat->Value,tl=[f 0,f 1,f 2,f 3,f 4,f 5,f 6,f 7,f 8,f 9,f 10,f 11,f 12,f 13,f 14,f 15,f 16,f 17,f 18,f 19,f 20,f 21,f 22,f 23,f 24,f 25,f 26,f 27,f 28,f 29,f 30,f 31,f 32,f 33,f 34,f 35,f 36,f 37,f 38,f 39,f 40,f 41]/\∀i,f i=(⟨tl⟩:Array Value).getD i undef:=by
    refine⟨fun i=>(⟨tl⟩:Array Value).getD i undef,?_,fun _=>rfl⟩
    have h:=LZ tl undef
    rw[show tl.length=42 from e9]at h
    exact h
   rw[<-hf]at p5 p6 p8
   have YW:df=[]:=F6
   subst YW
   clear hf uW ev hV
   subst NK
   rw[p5,p6,p8]
   have XF:=hv.kept (grown_of DY) (by simp)
   have HK:=fI.kept (grown_of DY) (by rcases fI.2 with⟨e,_⟩|⟨_,_,_,e,_⟩<;>rw[e]<;>simp[Value.ownBlock])
   have YQ:=XF.cell
   have Zn:w.heap.size<=w3.heap.size:=Nat.le_trans hB.size DY.size
   have eX0:w3.cell? ⟨Bx,0,none⟩=some (.int .i64 (x0:Int)):=(DY.cell (p:=⟨Bx,0,none⟩) (Array.getElem?_eq_some_iff.1 bX).1).trans cX0
   have eX1:w3.cell? ⟨Bx,1,none⟩=some (.int .i64 (x1:Int)):=(DY.cell (p:=⟨Bx,1,none⟩) (Array.getElem?_eq_some_iff.1 bX).1).trans cX1
   have mE:(pD s l pre).length<=2097152:=by
    have h1:=KN s l pre
    have h2:=EP l l.length
    omega
   have hKF:KeepsFrom (w.heap.size+4) W w3:=⟨DY.size,fun k o _ hk _=>(DY.block k (Array.getElem?_eq_some_iff.1 hk).1).trans hk⟩
   have hKT:jm w.heap.size W w3:=jm.of DY
   have Yi:w3.heap[w.heap.size+1]? = _:=(DY.block _ bA1.lt).trans bA1
   have Yj:=(DY.block _ (Array.getElem?_eq_some_iff.1 bT1).1).trans bT1
   by_cases lH:0<iI s (aQ l x0).bp x2 (aQ l x1).bp
   ·have zK:pD s l (pre++[⟨(x0,x1,x2),hx⟩])=pD s l pre++[⟨x0,x1,iI s (aQ l x0).bp x2 (aQ l x1).bp⟩]:=by
     rw[Au];simp only[BO,if_pos lH]
    gi_wp2_with (gi_at_builtin;refine wpListIn_append_own _ rfl _ _ 138 rfl w.heap.size 163 i0 (.agg #[.int .i64 0,.int .i64 0,.int .i64 0]) 3 24 (by kernel_rfl) hi V8 AR sC rfl (by decide) _ _ _ rfl (HK.alloc _) ⟨w3.heap.size,0,none⟩ 1 1 [.int .i64 (x0:Int),.int .i64 (x1:Int),.int .i64 (iI s (aQ l x0).bp x2 (aQ l x1).bp)] rfl rfl (yl _ _ _ _ _) (by simp[Value.oneCell']) (by unfold maxLen;omega) ae (by simp;omega) ?_;intro v' w4 Qj HG _;obtain⟨g',cap',rfl⟩:=ownsRow_succ Qj;obtain⟨AQ,R8,OJ,ue,Lj⟩:=XF.appended (by decide) HK Zn ae Qj HG;have NF:=jm.app XF HK HG Lj;have sr:=AQ.cell;have hf1:=AQ.frozen)
    exact⟨hKF.trans (ue.from _),hKT.trans NF,⟨⟨_,R8,by rw[zK,KM,List.length_append];exact OJ,by rw[zK];simp⟩,(NF.2.1 _ _ _ _ Yi (by decide) (by decide)).trans Yi,(NF.2.1 _ _ _ _ Yj (by decide) (by decide)).trans Yj⟩,hB.trans ((DY.mono hB.size).trans Lj)⟩
   ·have zK:pD s l (pre++[⟨(x0,x1,x2),hx⟩])=pD s l pre:=by
     rw[Au];simp only[BO,if_neg lH,List.append_nil]
    gi_wp2
    exact⟨hKF,hKT,⟨⟨v,XF,by rw[zK];exact HK,by rw[zK];exact hnil⟩,Yi,Yj⟩,hB.trans (DY.mono hB.size)⟩
 case done=>
  rintro D ys W hD HP ⟨⟨⟨v,hv,fI,hnil⟩,_⟩,hB⟩ hK
  have hc:=hv.cell
  have Nw:pD s l ys=dz s l:=by rw[KR,<-HP];rfl
  rw[Nw]at fI hnil
  gi_wp2
  refine⟨by simp,.inl ⟨_,_,rfl,run_takeDeferred hK,?_⟩⟩
  exact⟨_,results_tmp rfl _ _ _,v,rfl,ownsRow_putObj fI _ hK rfl,hnil,hB.trans (belowK_b (w:=w) (Nat.le_refl _) W D _ _ ae hK rfl rfl)⟩
 case stop=>
  rintro D c pre W _ _ h _
  exact h.elim
end Go.Proofs.YtiabgllilcfheaaGreat.V
