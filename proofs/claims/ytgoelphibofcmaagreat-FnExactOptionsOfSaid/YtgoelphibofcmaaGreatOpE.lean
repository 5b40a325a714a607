/- The options, by the reference. -/
import Derived.Test.YtgoelphibofcmaaGreatOpB
import Derived.Test.YtgoelphibofcmaaGreatOpD
import Derived.Test.YtgoelphibofcmaaGreatOpC
import Derived.Maps.RangeRun
import Derived.RangeFuncCalls
import Derived.OrdersIn
import Derived.RangeFuncNested
import Derived.RangeFuncBound
import Derived.RangeFuncLeaves
import Derived.Shelf.Abstract
import Derived.Shelf.RegionOpen
import Derived.WalkKit
import Derived.OwnWalkIn
import Derived.TacticsInMore
import Derived.LoopNIn
import Derived.LoopIn
import Derived.BigQuiet
import Derived.RangeFuncBox
import Derived.RangeFuncWrites
import Derived.Maps.AppendAt
import Derived.Maps.OwnIn
import Derived.Shelf.SlSortCmp.WholeK
import Derived.Shelf.SlSortCmp.NoneTotal
import Derived.Ground.SlsfProg
import Derived.Test.YtgoelphibofcmaaGreatProg
set_option linter.unusedVariables false
set_option linter.unusedSimpArgs false
set_option maxRecDepth 100000
set_option maxHeartbeats 16000000
namespace Go.Proofs.YtgoelphibofcmaaGreat.V
open Go.RowKit
attribute [local irreducible] eb wpOps gj Call
attribute [local go_sem] aJ fM eP fZ fY cL upd cu K.av cN AV.cells AV.cell rowOf rowsOf part ld rowAt bI bW dD ee gT bL dc ev fU eY dr ej da cZ dO dR bR aX cR bQ cV cU eh ek ei cQ bV db ef bP aP cX cE gS bw cJ bU aW dx bj dE AV.undef bD bF dV ec dI dS cF eu eB cD ep eo cW cY List.getD_cons_zero List.getD_cons_succ List.getD_nil List.all_cons List.all_nil Bool.and_true Bool.true_and Bool.and_self Bool.not_true Bool.not_false Option.map_some Option.map_none Option.bind_some Option.bind_none List.length_cons List.length_nil List.take_succ_cons List.take_zero List.take_nil List.drop_succ_cons List.drop_zero List.drop_nil List.head?_cons List.map_cons List.map_nil List.getElem?_cons_zero List.getElem?_cons_succ List.cons_append List.nil_append List.append_nil List.length_map List.set_cons_zero List.set_cons_succ Nat.reduceMul eq_self Int.toNat_natCast Int.natCast_nonneg and_self true_and and_true decide_true decide_false Bool.false_eq_true Nat.zero_add Nat.add_zero List.contains_cons List.contains_nil Bool.or_false Bool.false_or beq_self_eq_true Nat.reduceBEq ne_eq not_true_eq_false not_false_eq_true Id.mk.injEq false_and and_false Nat.reduceLT Int.reduceLE Int.reduceLT Int.reduceToNat Int.reduceNeg Int.reduceAdd Nat.le_refl List.length_append beq_true beq_false Bool.not_eq_eq_eq_not or_false false_or dM aj aq aH bd bz ck aU bf aT aZ cP bH
def oy (s:aw) (F:ai->Int) (p:ai) (d:Nat):Int:=if F (aY p d)<0 then 0 else de (dh s (F (aY p d))) (kn d)
def oz (s:aw) (F:ai->Int) (p:ai) (k:Nat):List Int:=(List.range k).map (oy s F p)
theorem A7 (s:aw) (F:ai->Int) (p:ai) (k:Nat):(oz s F p k).length=k:=by simp[oz]
theorem F8 (s:aw) (F:ai->Int) (p:ai) (k:Nat):oz s F p (k+1)=oz s F p k++[oy s F p k]:=by simp[oz,List.range_succ]
theorem Iu {s:aw} {F:ai->Int} {p:ai} {k d:Nat} (h:d<k):((oz s F p k).map aG)[d]? =some [.int .i64 (oy s F p d)]:=by simp[oz,h,aG]
theorem F0 {s:aw} (hF:iU s) {F:ai->Int} (hT:∀q,0<=F q->eS s (F q)=true) {p:ai} {t:Int} (ht:eS s t=true) {d:Nat} (hd:d<4):
  dp s F p t (d+1)=if de (dh s t) d=oy s F p d then dp s F p t d+pK s (oy s F p d)else dp s F p t d:=by
 rw[dp]
 unfold oy
 by_cases h0:F (aY p d)<0
 ·rw[if_neg (by omega),if_pos h0]
  have:pK s 0=0:=if_pos rfl
  rw[this,Int.add_zero]
  split<;>rfl
 ·rw[if_pos (by omega),if_neg h0]
  unfold gL
  split
  ·rename_i e;rw[e]
  ·rw[Int.add_zero]
theorem KT {s:aw} (hF:iU s) {F:ai->Int} (hT:∀q,0<=F q->eS s (F q)=true) (p:ai) {d:Nat} (hd:d<4):0<=oy s F p d/\oy s F p d<=s.ax.length:=by
 unfold oy
 split
 ·exact⟨Int.le_refl _,by omega⟩
 ·rename_i h0
  obtain⟨_,_,a2⟩:=jY (hT _ (by omega:0<=F (aY p d)))
  exact hF.tn _ a2 _ (wC (hF.pV _ a2) (qF (jE (by omega))))
noncomputable def yO (s:aw) (l:List ae) (T:Int) (p:ai) (t:Int):Bool:=decide (T<=pO s (gK l) p t)
theorem KB {s:aD} {l:List ae} {p:ai} (h:Ao l p) (hA:kz s.aB l) (t:Int):ew s l p t=yO s.aB l s.ay p t:=by
 obtain⟨h1,h2,_⟩:=h
 simp[ew,yO,h1,(HP hA p).2 h2]
theorem LC (s:aw) (hS:iA s) (l:List ae) (hA:kz s l) (p:ai) (hx:iB p.eM) (hy:iB p.eI) (T:Int):
  ar Tryz.prog 72 [.dj (aa s),.dj [.sl (l.map ad)],.agg (ab p),.int .i64 T] (.sl ((kq (yO s l T) p s.ah.length).map aG)):=by
 refine ar.body eJ rfl fun mM n0=>?_
 clear mM
 have hF:=hS.form
 have Kq:=hS.yD
 have TF:∀q,0<=gK l q->eS s (gK l q)=true:=iA.Mv hA
 (try((repeat(revert hN;revert N;apply Pn.out));refine wk @ab.eq_1 ?_;(repeat(refine Pn.mk ?_;intro N hN))))
 refine aO (fun n env st=>∃k:Nat,n=(4)-k/\k<=(4)/\env 10=.int .i64 (k:Int)/\st.get ⟨72000000,n0⟩=some ⟨true,2,[ab p]⟩/\(n0+2<=st.next/\∃o:Id,env 9=.own o 0 k/\st.get o=some ⟨true,1,(oz s (gK l) p k).map aG⟩/\n0<o.bm/\o.bm<st.next)) (4) ⟨0,by omega,by omega,sl @ab.eq_1,sl @ab.eq_1,by(try dsimp only);exact⟨by omega,⟨72001000,n0+1⟩,sl @Nat.zero_add,sl @Nat.zero_add,by(try dsimp only);omega,by(try dsimp only);omega⟩⟩ ?_
 rintro n_a env_a st_a ⟨k,rfl,ale,w5,ag0,ke⟩ dv
 have a0:=dv 0 (by kernel_rfl);have a1:=dv 1 (by kernel_rfl);have a3:=dv 3 (by kernel_rfl);have a6:=dv 6 (by kernel_rfl)
 simp only[go_sem, ↓reduceIte,Nat.reduceEqDiff,Nat.reduceAdd,Nat.reduceSub,Nat.reduceLeDiff,reduceCtorEq,ab]at a0 a1 a3 a6
 clear dv
 obtain⟨an,o,a9,ag,S5,aox⟩:=ke
 have vo:=dz aox
 have vb:=dz (i:=⟨72000000,n0⟩) (n:=st_a.next) (by(try dsimp only);omega)
 have ob:=dq (a:=⟨72000000,n0⟩) (b:=o) (by(try dsimp only);omega)
 by_cases hk:(k:Int)<4
 ·have cz:∀{e:Env} {gg:Rows} {nx:Nat},(e 10=.int .i64 (IntKind.i64.wrap ((k:Int)+1)))->(gg ⟨72000000,n0⟩=some ⟨true,2,[ab p]⟩)->(n0+2<=nx/\∃o:Id,e 9=.own o 0 (k+1)/\gg o=some ⟨true,1,(oz s (gK l) p (k+1)).map aG⟩/\n0<o.bm/\o.bm<nx)->∃m0,m0<(4)-k/\∃k:Nat,m0=(4)-k/\k<=(4)/\e 10=.int .i64 (k:Int)/\gg ⟨72000000,n0⟩=some ⟨true,2,[ab p]⟩/\(n0+2<=nx/\∃o:Id,e 9=.own o 0 k/\gg o=some ⟨true,1,(oz s (gK l) p k).map aG⟩/\n0<o.bm/\o.bm<nx):=fun x1 x2 x3=>⟨_,by omega,k+1,rfl,by omega,(by rw[x1,az (by omega)]),x2,x3⟩
  have hd:iJ (k:Int) 0 3=true:=jE (by omega)
  have dH:=sO p k hd hx hy
  have Af:=LB l (aY p k) hA.1.M1 (by have:=hA.1.Cu;omega)
  rw[ab]at dH Af
  have lY:((oz s (gK l) p k).map aG).length=k:=by rw[List.length_map,A7]
  have qN:k<=16777215:=by omega
  have Gh:=F8 s (gK l) p k
  have sg:(oz s (gK l) p (k+1)).map aG=(oz s (gK l) p k).map aG++[[.int .i64 (oy s (gK l) p k)]]:=by rw[Gh,List.map_append];rfl
  by_cases h0:gK l (aY p k)<0
  ·have se:oy s (gK l) p k=0:=if_pos h0
   rw[se]at sg
   (repeat(first|((repeat(revert hN;revert N;apply Pn.out));refine wk (tw @w5 (tw @ag0 (tw @a0 (tw @a1 (tw @a3 (tw @a6 (tw @hk (tw @a9 (tw @ag (tw @vo (tw @vb (tw @ob (tw @lY (tw @qN (tw @h0 @ab.eq_1))))))))))))))) ?_;(repeat(refine Pn.mk ?_;intro N hN)))|((try apply Or.inl);refine⟨_,ar.x (dH) (sd (tw @w5 (tw @ag0 (tw @a0 (tw @a1 (tw @a3 (tw @a6 (tw @hk (tw @a9 (tw @ag (tw @vo (tw @vb (tw @ob (tw @lY (tw @qN (tw @h0 @ab.eq_1)))))))))))))))),?_⟩;refine hN _ _ ?_;clear hN N)|((try apply Or.inl);refine⟨_,ar.x (Af) (sd (tw @w5 (tw @ag0 (tw @a0 (tw @a1 (tw @a3 (tw @a6 (tw @hk (tw @a9 (tw @ag (tw @vo (tw @vb (tw @ob (tw @lY (tw @qN (tw @h0 @ab.eq_1)))))))))))))))),?_⟩;refine hN _ _ ?_;clear hN N)))
   refine cz ?_ ?_ (by(try dsimp only);exact⟨by omega,⟨72007002,st_a.next+1+1+1⟩,sl @Nat.zero_add,by rw[sg];simp only[go_sem, ↓reduceIte,Nat.reduceEqDiff,Nat.reduceAdd,Nat.reduceSub,Nat.reduceLeDiff,reduceCtorEq]<;>rfl,by(try dsimp only);omega,by(try dsimp only);omega⟩)
   all_goals simp only[go_sem, ↓reduceIte,Nat.reduceEqDiff,Nat.reduceAdd,Nat.reduceSub,Nat.reduceLeDiff,reduceCtorEq,w5,ag0,a0,a1,a3,a6,vb,ob,ab]
  ·have se:oy s (gK l) p k=de (dh s (gK l (aY p k))) (kn k):=if_neg h0
   rw[se]at sg
   obtain⟨b0,b1,b2⟩:=jY (TF _ (by omega:0<=gK l (aY p k)))
   have s2:=kX (hF.pV _ b2) (qF hd)
   have d1:=(ea (qF hd)).1
   have dG:=uG k hd
   (repeat(first|((repeat(revert hN;revert N;apply Pn.out));refine wk (tw @w5 (tw @ag0 (tw @a0 (tw @a1 (tw @a3 (tw @a6 (tw @hk (tw @a9 (tw @ag (tw @vo (tw @vb (tw @ob (tw @lY (tw @qN (tw @h0 (tw @b0 (tw @b1 (tw @s2 (tw @d1 (tw @ab.eq_1 (tw @aa.eq_1 @bp.eq_1))))))))))))))))))))) ?_;(repeat(refine Pn.mk ?_;intro N hN)))|((try apply Or.inl);refine⟨_,ar.x (dH) (sd (tw @w5 (tw @ag0 (tw @a0 (tw @a1 (tw @a3 (tw @a6 (tw @hk (tw @a9 (tw @ag (tw @vo (tw @vb (tw @ob (tw @lY (tw @qN (tw @h0 (tw @b0 (tw @b1 (tw @s2 (tw @d1 (tw @ab.eq_1 (tw @aa.eq_1 @bp.eq_1)))))))))))))))))))))),?_⟩;refine hN _ _ ?_;clear hN N)|((try apply Or.inl);refine⟨_,ar.x (Af) (sd (tw @w5 (tw @ag0 (tw @a0 (tw @a1 (tw @a3 (tw @a6 (tw @hk (tw @a9 (tw @ag (tw @vo (tw @vb (tw @ob (tw @lY (tw @qN (tw @h0 (tw @b0 (tw @b1 (tw @s2 (tw @d1 (tw @ab.eq_1 (tw @aa.eq_1 @bp.eq_1)))))))))))))))))))))),?_⟩;refine hN _ _ ?_;clear hN N)|((try apply Or.inl);refine⟨_,ar.x (dG) (sd (tw @w5 (tw @ag0 (tw @a0 (tw @a1 (tw @a3 (tw @a6 (tw @hk (tw @a9 (tw @ag (tw @vo (tw @vb (tw @ob (tw @lY (tw @qN (tw @h0 (tw @b0 (tw @b1 (tw @s2 (tw @d1 (tw @ab.eq_1 (tw @aa.eq_1 @bp.eq_1)))))))))))))))))))))),?_⟩;refine hN _ _ ?_;clear hN N)))
   refine cz ?_ ?_ (by(try dsimp only);exact⟨by omega,⟨72008014,st_a.next+1+1+1⟩,sl @Nat.zero_add,by rw[sg];simp only[go_sem, ↓reduceIte,Nat.reduceEqDiff,Nat.reduceAdd,Nat.reduceSub,Nat.reduceLeDiff,reduceCtorEq]<;>rfl,by(try dsimp only);omega,by(try dsimp only);omega⟩)
   all_goals simp only[go_sem, ↓reduceIte,Nat.reduceEqDiff,Nat.reduceAdd,Nat.reduceSub,Nat.reduceLeDiff,reduceCtorEq,w5,ag0,a0,a1,a3,a6,vb,ob,ab]
 ·have Uc:k=4:=by omega
  subst Uc
  (try((repeat(revert hN;revert N;apply Pn.out));refine wk (tw @w5 (tw @ag0 (tw @a0 (tw @a1 (tw @a3 (tw @a6 (tw @hk @aa.eq_1))))))) ?_;(repeat(refine Pn.mk ?_;intro N hN))))
  refine aO (fun n env st=>∃i:Nat,n=(s.ah.length)-i/\i<=(s.ah.length)/\env 13=.int .i64 (i:Int)/\(st_a.next<=st.next/\st.get o=some ⟨true,1,(oz s (gK l) p 4).map aG⟩/\∃u:Id,env 12=.own u 0 (kq (yO s l T) p i).length/\st.get u=some ⟨true,1,(kq (yO s l T) p i).map aG⟩/\st_a.next<=u.bm/\u.bm<st.next)) (s.ah.length) ⟨0,by omega,by omega,sl (tw @w5 (tw @ag0 (tw @a0 (tw @a1 (tw @a3 (tw @a6 (tw @a9 @aa.eq_1))))))),by(try dsimp only);exact⟨by omega,sd (tw @vo @ag),⟨72009000,st_a.next+1⟩,sl @Nat.zero_add,sl @Nat.zero_add,by(try dsimp only);omega,by(try dsimp only);omega⟩⟩ ?_
  rintro n_b env_b st_b ⟨i,rfl,ble,CQ,bI0⟩ eV
  have b0:=eV 0 (by kernel_rfl);have b1:=eV 1 (by kernel_rfl);have b3:=eV 3 (by kernel_rfl);have b9:=eV 9 (by kernel_rfl)
  simp only[go_sem, ↓reduceIte,Nat.reduceEqDiff,Nat.reduceAdd,Nat.reduceSub,Nat.reduceLeDiff,reduceCtorEq,w5,ag0,a0,a1,a3,a6,a9,aa]at b0 b1 b3 b9
  clear eV
  obtain⟨bn,bo,u,Qa,bu,bum,bux⟩:=bI0
  have vob:=dz (i:=o) (n:=st_b.next) (by omega)
  have vub:=dz bux
  have Gg:=rn (yO s l T) p i
  have ou:=dq (a:=o) (b:=u) (by omega)
  by_cases hi:(i:Int)<(s.ah.length:Int)
  ·have fh:∀{e:Env} {gg:Rows} {nx:Nat},(e 13=.int .i64 (IntKind.i64.wrap ((i:Int)+1)))->(st_a.next<=nx/\gg o=some ⟨true,1,(oz s (gK l) p 4).map aG⟩/\∃u:Id,e 12=.own u 0 (kq (yO s l T) p (i+1)).length/\gg u=some ⟨true,1,(kq (yO s l T) p (i+1)).map aG⟩/\st_a.next<=u.bm/\u.bm<nx)->∃m0,m0<(s.ah.length)-i/\∃i:Nat,m0=(s.ah.length)-i/\i<=(s.ah.length)/\e 13=.int .i64 (i:Int)/\(st_a.next<=nx/\gg o=some ⟨true,1,(oz s (gK l) p 4).map aG⟩/\∃u:Id,e 12=.own u 0 (kq (yO s l T) p i).length/\gg u=some ⟨true,1,(kq (yO s l T) p i).map aG⟩/\st_a.next<=u.bm/\u.bm<nx):=fun x1 x2=>⟨_,by omega,i+1,rfl,by omega,(by rw[x1,az (by omega)]),x2⟩
   have fI:i<s.ah.length:=by omega
   have htb:=Ck fI
   obtain⟨t0,t1,t2⟩:=jY htb
   rw[Int.toNat_natCast]at t1
   have Di:dp s (gK l) p i 0=0:=rfl
   (try((repeat(revert hN;revert N;apply Pn.out));refine wk (tw @CQ (tw @b0 (tw @b1 (tw @b3 (tw @b9 @hi))))) ?_;(repeat(refine Pn.mk ?_;intro N hN))))
   refine aO (fun n env st=>∃j:Nat,n=(4)-j/\j<=(4)/\env 15=.int .i64 (j:Int)/\env 14=.int .i64 (dp s (gK l) p i j)/\(st_b.next<=st.next/\∀x:Id,x.bm<st_b.next->st.get x=st_b.get x)) (4) ⟨0,by omega,by omega,sl (tw @CQ (tw @b0 (tw @b1 (tw @b3 (tw @b9 (tw @a9 (tw @Di @aa.eq_1))))))),sl (tw @CQ (tw @b0 (tw @b1 (tw @b3 (tw @b9 (tw @a9 (tw @Di @aa.eq_1))))))),by(try dsimp only);exact⟨by omega,fun x hx=>by
    have h1:=dz hx
    simp only[go_sem, ↓reduceIte,Nat.reduceEqDiff,Nat.reduceAdd,Nat.reduceSub,Nat.reduceLeDiff,reduceCtorEq,h1]⟩⟩ ?_
   rintro n_c env_c st_c ⟨j,rfl,cle,c15,c14,cI0⟩ iG
   have c0:=iG 0 (by kernel_rfl);have c3:=iG 3 (by kernel_rfl);have c9:=iG 9 (by kernel_rfl);have p9:=iG 12 (by kernel_rfl);have H5:=iG 13 (by kernel_rfl)
   simp only[go_sem, ↓reduceIte,Nat.reduceEqDiff,Nat.reduceAdd,Nat.reduceSub,Nat.reduceLeDiff,reduceCtorEq,CQ,b0,b1,b3,b9,a9,Di,aa]at c0 c3 c9 p9 H5
   clear iG
   obtain⟨cn,iG⟩:=cI0
   have go:=(iG o (by omega)).trans bo
   have gu:=(iG u bux).trans bu
   have RE:=dz (i:=o) (n:=st_c.next) (by omega)
   have vuc:=dz (i:=u) (n:=st_c.next) (by omega)
   by_cases hj:(j:Int)<4
   ·have gx:∀{e:Env} {gg:Rows} {nx:Nat},(e 15=.int .i64 (IntKind.i64.wrap ((j:Int)+1)))->(e 14=.int .i64 (dp s (gK l) p i (j+1)))->(st_b.next<=nx/\∀x:Id,x.bm<st_b.next->gg x=st_b.get x)->∃m0,m0<(4)-j/\∃j:Nat,m0=(4)-j/\j<=(4)/\e 15=.int .i64 (j:Int)/\e 14=.int .i64 (dp s (gK l) p i j)/\(st_b.next<=nx/\∀x:Id,x.bm<st_b.next->gg x=st_b.get x):=fun x1 x2 x3=>⟨_,by omega,j+1,rfl,by omega,(by rw[x1,az (by omega)]),x2,x3⟩
    have hdj:iJ (j:Int) 0 3=true:=jE (by omega)
    have N9:(j:Int)<((4:Nat):Int):=by omega
    have s1:=kX (hF.pV _ t2) hdj
    rw[Int.toNat_natCast]at s1
    have QN:=Iu (s:=s) (F:=gK l) (p:=p) (k:=4) (d:=j) (by omega)
    have sf:((oz s (gK l) p 4).map aG).length=4:=by rw[List.length_map,A7]
    have dH:=F0 hF TF (p:=p) htb (d:=j) (by omega)
    have fo:=jQ hS (gK l) p i (j+1)
    have KZ:=jQ hS (gK l) p i j
    have kh:=KT hF TF p (d:=j) (by omega)
    have hss:=pS s (oy s (gK l) p j) kh.1 kh.2
    rw[aa]at hss
    by_cases he:de (dh s i) j=oy s (gK l) p j
    ·have ze:decide (de (dh s i) j=oy s (gK l) p j)=true:=decide_eq_true he
     rw[if_pos he]at dH
     have hw:IntKind.i64.wrap (dp s (gK l) p i j+pK s (oy s (gK l) p j))=dp s (gK l) p i (j+1):=by rw[<-dH,bh (by omega)]
     (repeat(first|((repeat(revert hN;revert N;apply Pn.out));refine wk (tw @c15 (tw @c14 (tw @c0 (tw @c3 (tw @c9 (tw @p9 (tw @H5 (tw @hj (tw @N9 (tw @t1 (tw @s1 (tw @QN (tw @go (tw @RE (tw @ze (tw @aa.eq_1 @bp.eq_1)))))))))))))))) ?_;(repeat(refine Pn.mk ?_;intro N hN)))|((try apply Or.inl);refine⟨_,ar.x (hss) (sd (tw @c15 (tw @c14 (tw @c0 (tw @c3 (tw @c9 (tw @p9 (tw @H5 (tw @hj (tw @N9 (tw @t1 (tw @s1 (tw @QN (tw @go (tw @RE (tw @ze (tw @aa.eq_1 @bp.eq_1))))))))))))))))),?_⟩;refine hN _ _ ?_;clear hN N)))
     refine gx ?_ ?_ (by(try dsimp only);exact⟨by omega,fun x hx=>by exact iG x hx⟩)
     all_goals simp only[go_sem, ↓reduceIte,Nat.reduceEqDiff,Nat.reduceAdd,Nat.reduceSub,Nat.reduceLeDiff,reduceCtorEq,c15,c14,c0,c3,c9,p9,H5,hw,aa]
    ·have ze:decide (de (dh s i) j=oy s (gK l) p j)=false:=decide_eq_false he
     rw[if_neg he]at dH
     (try((repeat(revert hN;revert N;apply Pn.out));refine wk (tw @c15 (tw @c14 (tw @c0 (tw @c3 (tw @c9 (tw @p9 (tw @H5 (tw @hj (tw @N9 (tw @t1 (tw @s1 (tw @QN (tw @go (tw @RE (tw @ze (tw @aa.eq_1 @bp.eq_1)))))))))))))))) ?_;(repeat(refine Pn.mk ?_;intro N hN))))
     refine gx ?_ ?_ (by(try dsimp only);exact⟨by omega,fun x hx=>by exact iG x hx⟩)
     all_goals simp only[go_sem, ↓reduceIte,Nat.reduceEqDiff,Nat.reduceAdd,Nat.reduceSub,Nat.reduceLeDiff,reduceCtorEq,c15,c14,c0,c3,c9,p9,H5,dH,aa]
   ·have hj4:j=4:=by omega
    subst hj4
    have iv:dp s (gK l) p i 4=pO s (gK l) p i:=rfl
    have wT:kq (yO s l T) p (i+1)=if yO s l T p i=true then kq (yO s l T) p i++[(i:Int)]else kq (yO s l T) p i:=rfl
    have nG:yO s l T p i=decide (T<=pO s (gK l) p i):=rfl
    generalize kq (yO s l T) p i=L at wT Qa bu Gg gu
    cases hb:yO s l T p i
    ·rw[hb,if_neg (by simp)]at wT
     rw[hb]at nG
     (try((repeat(revert hN;revert N;apply Pn.out));refine wk (tw @c15 (tw @c14 (tw @c0 (tw @c3 (tw @c9 (tw @p9 (tw @H5 (tw @hj (tw @iv @nG.symm))))))))) ?_;(repeat(refine Pn.mk ?_;intro N hN))))
     exact fh (sd (tw @CQ (tw @b0 (tw @b1 (tw @b3 (tw @b9 (tw @c15 (tw @c14 (tw @c0 (tw @c3 (tw @c9 (tw @p9 (tw @H5 @aa.eq_1))))))))))))) (by(try dsimp only);exact⟨by omega,go,⟨u,by rw[wT];simp only[go_sem, ↓reduceIte,Nat.reduceEqDiff,Nat.reduceAdd,Nat.reduceSub,Nat.reduceLeDiff,reduceCtorEq,c15,c14,c0,c3,c9,p9,H5,Qa],by rw[wT];simp only[go_sem, ↓reduceIte,Nat.reduceEqDiff,Nat.reduceAdd,Nat.reduceSub,Nat.reduceLeDiff,reduceCtorEq,gu],by omega,by(try dsimp only);omega⟩⟩)
    ·rw[hb,if_pos rfl]at wT
     rw[hb]at nG
     have lY:(L.map aG).length=L.length:=by simp
     have hL1:L.length<=16777215:=by omega
     have xW:(L++[(i:Int)]).length=L.length+1:=by simp
     have xf:(L++[(i:Int)]).map aG=L.map aG++[[.int .i64 i]]:=by rw[List.map_append];rfl
     (try((repeat(revert hN;revert N;apply Pn.out));refine wk (tw @c15 (tw @c14 (tw @c0 (tw @c3 (tw @c9 (tw @p9 (tw @H5 (tw @hj (tw @iv (tw @nG.symm (tw @Qa (tw @gu (tw @vuc (tw @lY (tw @hL1 (tw @RE @ou)))))))))))))))) ?_;(repeat(refine Pn.mk ?_;intro N hN))))
     exact fh (sd (tw @CQ (tw @b0 (tw @b1 (tw @b3 (tw @b9 (tw @c15 (tw @c14 (tw @c0 (tw @c3 (tw @c9 (tw @p9 (tw @H5 @aa.eq_1))))))))))))) (by(try dsimp only);exact⟨by omega,sd (tw @go (tw @RE @ou)),⟨⟨72020003,st_c.next+1+1⟩,by rw[wT,xW];simp only[go_sem, ↓reduceIte,Nat.reduceEqDiff,Nat.reduceAdd,Nat.reduceSub,Nat.reduceLeDiff,reduceCtorEq]<;>rfl,by rw[wT,xf];simp only[go_sem, ↓reduceIte,Nat.reduceEqDiff,Nat.reduceAdd,Nat.reduceSub,Nat.reduceLeDiff,reduceCtorEq]<;>rfl,by(try dsimp only);omega,by(try dsimp only);omega⟩⟩)
  ·have nz:i=s.ah.length:=by omega
   subst nz
   (try((repeat(revert hN;revert N;apply Pn.out));refine wk (tw @CQ (tw @b0 (tw @b1 (tw @b3 (tw @b9 (tw @hi @Qa)))))) ?_;(repeat(refine Pn.mk ?_;intro N hN))))
   exact oN (.inl rfl) (vs:=[.own u 0 (kq (yO s l T) p s.ah.length).length]) (sd @Qa) (by
    simp only[fc]
    exact fB (e:=aG) (n:=5) bu rfl fun x=>by simp[aG,bE,cw,eH])
end Go.Proofs.YtgoelphibofcmaaGreat.V

namespace Go.Proofs.YtgoelphibofcmaaGreat.V
open Go.RowKit
attribute [local irreducible] eb wpOps gj Call
attribute [local go_sem] aJ fM eP fZ fY cL upd cu K.av cN AV.cells AV.cell rowOf rowsOf part ld rowAt bI bW dD ee gT bL dc ev fU eY dr ej da cZ dO dR bR aX cR bQ cV cU eh ek ei cQ bV db ef bP aP cX cE gS bw cJ bU aW dx bj dE AV.undef bD bF dV ec dI dS cF eu eB cD ep eo cW cY List.getD_cons_zero List.getD_cons_succ List.getD_nil List.all_cons List.all_nil Bool.and_true Bool.true_and Bool.and_self Bool.not_true Bool.not_false Option.map_some Option.map_none Option.bind_some Option.bind_none List.length_cons List.length_nil List.take_succ_cons List.take_zero List.take_nil List.drop_succ_cons List.drop_zero List.drop_nil List.head?_cons List.map_cons List.map_nil List.getElem?_cons_zero List.getElem?_cons_succ List.cons_append List.nil_append List.append_nil List.length_map List.set_cons_zero List.set_cons_succ Nat.reduceMul eq_self Int.toNat_natCast Int.natCast_nonneg and_self true_and and_true decide_true decide_false Bool.false_eq_true Nat.zero_add Nat.add_zero List.contains_cons List.contains_nil Bool.or_false Bool.false_or beq_self_eq_true Nat.reduceBEq ne_eq not_true_eq_false not_false_eq_true Id.mk.injEq false_and and_false Nat.reduceLT Int.reduceLE Int.reduceLT Int.reduceToNat Int.reduceNeg Int.reduceAdd Nat.le_refl List.length_append beq_true beq_false Bool.not_eq_eq_eq_not or_false false_or dM aj aq aH bd bz ck aU bf aT aZ cP bH
noncomputable def iI (s:aD) (ts:List ae) (q:ai):List Int:=kq (ew s ts) q s.aB.ah.length
def iu (σ:au) (O:Id) (s:aD) (ts:List ae) (A:ai->Prop) (g:Rows) (n:Nat):Prop:=σ.next<=n/\(∀x:Id,x.bm<σ.next->x≠O->g x=σ.get x)/\∃es:List En,g O=some ⟨true,mP.lJ,es.map pz⟩/\uF g n es (iI s ts) A
theorem iu.Kd {σ:au} {g:Rows} {n:Nat} {c T O:Id} {s s':aD} {ts Ks:List ae} {A:ai->Prop} (h:yI σ.get σ.next c T O s ts) (hc:c≠O) (hT:T≠O) (k:iu σ O s' Ks A g n):yI g n c T O s ts:=
 h.frame k.1 (k.2.1 _ h.cv hc) (k.2.1 _ h.tv hT)
theorem iu.frame {a:au} {O:Id} {s:aD} {ts:List ae} {A:ai->Prop} {g g':Rows} {n n' m:Nat} (h:iu a O s ts A g n) (ha:n<=m) (ho:O.bm<m) (hn:n<=n') (hf:∀x:Id,x.bm<m->g' x=g x):iu a O s ts A g' n':=by
 refine⟨Nat.le_trans h.1 hn,fun x hx hO=>(hf x (Nat.lt_of_lt_of_le hx (Nat.le_trans h.1 ha))).trans (h.2.1 x hx hO),?_⟩
 obtain⟨es,h1,h2⟩:=h.2.2
 exact⟨es,(hf O ho).trans h1,h2.frame hn fun x hx _=>hf x (Nat.lt_of_lt_of_le hx ha)⟩
theorem D9:¬mP.lJ=1:=by decide
theorem iu.put {a:au} {O:Id} {s:aD} {ts:List ae} {A A':ai->Prop} {g g':Rows} {n n':Nat} {es:List En} (h:iu a O s ts A g n) (hg:g O=some ⟨true,mP.lJ,es.map pz⟩) (hw:uF g n es (iI s ts) A) (hn:n<=n') (hf:∀x:Id,x.bm<n->x≠O->g' x=g x) {q:ai} {o:Id} (h0:iI s ts q≠[]) (ho:o.bm<n') (tV:g' o=some ⟨true,1,(iI s ts q).map aG⟩) (hO:g' O=some ⟨true,mP.lJ,(mV es q (.own o 0 (iI s ts q).length)).map pz⟩) (hA:∀p,A' p->A p∨p=q):iu a O s ts A' g' n':=
 ⟨Nat.le_trans h.1 hn,fun x hx Lp=>(hf x (Nat.lt_of_lt_of_le hx h.1) Lp).trans (h.2.1 x hx Lp),_,hO,((hw.frame hn fun x hx hr=>hf x hx (by
  rintro rfl
  obtain⟨k,r,hr⟩:=hr
  rw[hg]at hr
  injection hr with hr
  injection hr with _ hr _
  exact D9 hr)).put h0 ho tV).mono hA⟩
theorem iu.cut {a:au} {O:Id} {s:aD} {ts:List ae} {A A':ai->Prop} {g g':Rows} {n n':Nat} {es:List En} (h:iu a O s ts A g n) (hg:g O=some ⟨true,mP.lJ,es.map pz⟩) (hw:uF g n es (iI s ts) A) (hn:n<=n') (hf:∀x:Id,x.bm<n->x≠O->g' x=g x) {q:ai} (h0:iI s ts q=[]) (hO:g' O=some ⟨true,mP.lJ,(rj es q).map pz⟩) (hA:∀p,A' p->A p∨p=q):iu a O s ts A' g' n':=
 ⟨Nat.le_trans h.1 hn,fun x hx Lp=>(hf x (Nat.lt_of_lt_of_le hx h.1) Lp).trans (h.2.1 x hx Lp),_,hO,((hw.frame hn fun x hx hr=>hf x hx (by
  rintro rfl
  obtain⟨k,r,hr⟩:=hr
  rw[hg]at hr
  injection hr with hr
  injection hr with _ hr _
  exact D9 hr)).cut h0).mono hA⟩
theorem iu.ow {a:au} {O:Id} {s:aD} {ts:List ae} {A:ai->Prop} {g:Rows} {n:Nat} (h:iu a O s ts A g n):lp a O g n:=by
 obtain⟨h1,h2,es,h3,_⟩:=h
 refine⟨h1,h2,_,h3,fun r hr=>?_⟩
 obtain⟨e,_,rfl⟩:=List.mem_map.1 hr
 exact⟨_,_,_,rfl⟩
theorem zr {σ:au} {c T O:Id} {s:aD} {ts:List ae} (h:yI σ.get σ.next c T O s ts) (hc:c≠O) (hT:T≠O) (A:ai->Prop) (hO:∃es:List En,σ.get O=some ⟨true,mP.lJ,es.map pz⟩/\uF σ.get σ.next es (iI s ts) A) (hS:iA s.aB) (hF:∀q,0<=gK ts q->eS s.aB (gK ts q)=true) (p:ai) (hx:iB p.eM) (hy:iB p.eI):
  Call Tryz.prog 127 [.ptr c 0 0,.agg (ab p)] σ (fun r σ'=>r=.iF []/\iu σ O s ts (fun q=>A q∨∃k:Nat,k<4/\q=aY p k) σ'.get σ'.next):=by
 refine eU eJ rfl fun mM=>?_
 clear mM
 have Kq:=hS.yD
 have h0:iu σ O s ts (fun q=>A q∨∃k:Nat,k<0/\q=aY p k) σ.get σ.next:=⟨Nat.le_refl _,fun _ _ _=>rfl,by
  obtain⟨es,h1,h2⟩:=hO
  exact⟨es,h1,h2.mono fun q hq=>hq.elim id fun⟨k,hk,_⟩=>absurd hk (Nat.not_lt_zero k)⟩⟩
 (try((repeat(revert hN;revert N;apply Pn.out));refine wk @ab.eq_1 ?_;(repeat(refine Pn.mk ?_;intro N hN))))
 refine aO (fun n env st=>∃k:Nat,n=(4)-k/\k<=(4)/\env 8=.int .i64 (k:Int)/\st.get ⟨127000000,σ.next⟩=some ⟨true,2,[ab p]⟩/\(σ.next<st.next/\iu σ O s ts (fun q=>A q∨∃j:Nat,j<k/\q=aY p j) st.get st.next)) (4) ⟨0,by omega,by omega,sl @ab.eq_1,sl @ab.eq_1,⟨by(try dsimp only);omega,h0.frame (Nat.le_refl _) h.ov (by(try dsimp only);omega) (fun x hx=>by
  have:=dz hx
  simp only[go_sem, ↓reduceIte,Nat.reduceEqDiff,Nat.reduceAdd,Nat.reduceSub,Nat.reduceLeDiff,reduceCtorEq,this])⟩⟩ ?_
 rintro n_a env_a st_a ⟨k,rfl,ale,a8,ag0,ke⟩ dv
 have a0:=dv 0 (by kernel_rfl);have a3:=dv 3 (by kernel_rfl)
 simp only[go_sem, ↓reduceIte,Nat.reduceEqDiff,Nat.reduceAdd,Nat.reduceSub,Nat.reduceLeDiff,reduceCtorEq,ab]at a0 a3
 clear dv
 obtain⟨an,ak⟩:=ke
 have ha:=ak.Kd h hc hT
 by_cases hk:(k:Int)<4
 ·have cz:∀{e:Env} {gg:Rows} {nx:Nat},(e 8=.int .i64 (IntKind.i64.wrap ((k:Int)+1)))->(gg ⟨127000000,σ.next⟩=some ⟨true,2,[ab p]⟩)->(σ.next<nx/\iu σ O s ts (fun q=>A q∨∃j:Nat,j<(k+1)/\q=aY p j) gg nx)->∃m0,m0<(4)-k/\∃k:Nat,m0=(4)-k/\k<=(4)/\e 8=.int .i64 (k:Int)/\gg ⟨127000000,σ.next⟩=some ⟨true,2,[ab p]⟩/\(σ.next<nx/\iu σ O s ts (fun q=>A q∨∃j:Nat,j<k/\q=aY p j) gg nx):=fun x1 x2 x3=>⟨_,by omega,k+1,rfl,by omega,(by rw[x1,az (by omega)]),x2,x3⟩
  have dH:=Eh p k (jE (by omega)) hx hy
  obtain⟨b,h1⟩:=ha.row
  have v1:=dz ha.cv
  (repeat(first|((repeat(revert hN;revert N;apply Pn.out));refine wk (tw @a8 (tw @ag0 (tw @a0 (tw @a3 (tw @hk (tw @h1 (tw @v1 @ab.eq_1))))))) ?_;(repeat(refine Pn.mk ?_;intro N hN)))|((try apply Or.inl);refine⟨_,ar.x (dH) (sd (tw @a8 (tw @ag0 (tw @a0 (tw @a3 (tw @hk (tw @h1 (tw @v1 @ab.eq_1)))))))),?_⟩;refine hN _ _ ?_;clear hN N)))
  refine aO (fun n env st=>∃t:Nat,n=(s.aB.ah.length)-t/\t<=(s.aB.ah.length)/\env 21=.int .i64 (t:Int)/\st.get ⟨127000000,σ.next⟩=some ⟨true,2,[ab p]⟩/\st.get ⟨127004003,st_a.next+1+1⟩=some ⟨true,2,[ab (aY p k)]⟩/\(st_a.next+3<=st.next/\iu σ O s ts (fun q=>A q∨∃j:Nat,j<k/\q=aY p j) st.get st_a.next/\((kq (ew s ts) (aY p k) t=[]/\env 6=.cr)∨∃o:Id,env 6=.own o 0 (kq (ew s ts) (aY p k) t).length/\st.get o=some ⟨true,1,(kq (ew s ts) (aY p k) t).map aG⟩/\0<(kq (ew s ts) (aY p k) t).length/\st_a.next+3<=o.bm/\o.bm<st.next))) (s.aB.ah.length) ⟨0,by omega,by omega,sl (tw @a8 (tw @ag0 (tw @a0 (tw @a3 @ab.eq_1)))),sl (tw @a8 (tw @ag0 (tw @a0 (tw @a3 @ab.eq_1)))),sl (tw @a8 (tw @ag0 (tw @a0 (tw @a3 @ab.eq_1)))),⟨by(try dsimp only);omega,ak.frame (Nat.le_refl _) ha.ov (Nat.le_refl _) (fun x hx=>(by
   have:=dz hx
   simp only[go_sem, ↓reduceIte,Nat.reduceEqDiff,Nat.reduceAdd,Nat.reduceSub,Nat.reduceLeDiff,reduceCtorEq,this])),.inl ⟨rfl,sd @Nat.zero_add⟩⟩⟩ ?_
  rintro n_b env_b st_b ⟨t,rfl,ble,b21,bg0,bg1,bI0⟩ eV
  have b0:=eV 0 (by kernel_rfl);have b3:=eV 3 (by kernel_rfl);have b5:=eV 5 (by kernel_rfl);have b8:=eV 8 (by kernel_rfl);have Hq:=eV 20 (by kernel_rfl)
  simp only[go_sem, ↓reduceIte,Nat.reduceEqDiff,Nat.reduceAdd,Nat.reduceSub,Nat.reduceLeDiff,reduceCtorEq,a8,ag0,a0,a3,ab]at b0 b3 b5 b8 Hq
  clear eV
  obtain⟨bn,bk,b6⟩:=bI0
  have Py:yI st_b.get st_b.next c T O s ts:=(bk.Kd h hc hT).frame (by omega) rfl rfl
  obtain⟨b2,h2⟩:=Py.row
  have v2:=dz Py.cv
  have vt:=dz (i:=⟨127000000,σ.next⟩) (n:=st_b.next) (by(try dsimp only);omega)
  have vq:=dz (i:=⟨127004003,st_a.next+1+1⟩) (n:=st_b.next) (by(try dsimp only);omega)
  by_cases ht:(t:Int)<(s.aB.ah.length:Int)
  ·have fh:∀{e:Env} {gg:Rows} {nx:Nat},(e 21=.int .i64 (IntKind.i64.wrap ((t:Int)+1)))->(gg ⟨127000000,σ.next⟩=some ⟨true,2,[ab p]⟩)->(gg ⟨127004003,st_a.next+1+1⟩=some ⟨true,2,[ab (aY p k)]⟩)->(st_a.next+3<=nx/\iu σ O s ts (fun q=>A q∨∃j:Nat,j<k/\q=aY p j) gg st_a.next/\((kq (ew s ts) (aY p k) (t+1)=[]/\e 6=.cr)∨∃o:Id,e 6=.own o 0 (kq (ew s ts) (aY p k) (t+1)).length/\gg o=some ⟨true,1,(kq (ew s ts) (aY p k) (t+1)).map aG⟩/\0<(kq (ew s ts) (aY p k) (t+1)).length/\st_a.next+3<=o.bm/\o.bm<nx))->∃m0,m0<(s.aB.ah.length)-t/\∃t:Nat,m0=(s.aB.ah.length)-t/\t<=(s.aB.ah.length)/\e 21=.int .i64 (t:Int)/\gg ⟨127000000,σ.next⟩=some ⟨true,2,[ab p]⟩/\gg ⟨127004003,st_a.next+1+1⟩=some ⟨true,2,[ab (aY p k)]⟩/\(st_a.next+3<=nx/\iu σ O s ts (fun q=>A q∨∃j:Nat,j<k/\q=aY p j) gg st_a.next/\((kq (ew s ts) (aY p k) t=[]/\e 6=.cr)∨∃o:Id,e 6=.own o 0 (kq (ew s ts) (aY p k) t).length/\gg o=some ⟨true,1,(kq (ew s ts) (aY p k) t).map aG⟩/\0<(kq (ew s ts) (aY p k) t).length/\st_a.next+3<=o.bm/\o.bm<nx)):=fun x1 x2 x3 x4=>⟨_,by omega,t+1,rfl,by omega,(by rw[x1,az (by omega)]),x2,x3,x4⟩
   have Q7:t<s.aB.ah.length:=by omega
   have Gg:=rn (ew s ts) (aY p k) t
   have wT:kq (ew s ts) (aY p k) (t+1)=if ew s ts (aY p k) t=true then kq (ew s ts) (aY p k) t++[(t:Int)]else kq (ew s ts) (aY p k) t:=rfl
   generalize kq (ew s ts) (aY p k) t=L at b6 Gg wT
   (try((repeat(revert hN;revert N;apply Pn.out));refine wk (tw @b21 (tw @bg0 (tw @bg1 (tw @b0 (tw @b3 (tw @b5 (tw @b8 (tw @Hq (tw @ht (tw @h2 (tw @v2 (tw @vt (tw @vq @ab.eq_1))))))))))))) ?_;(repeat(refine Pn.mk ?_;intro N hN))))
   refine .inl ⟨_,NG (Py.frame (by(try dsimp only);omega) (sd @v2) (by(have:=dz Py.tv;simp only[go_sem, ↓reduceIte,Nat.reduceEqDiff,Nat.reduceAdd,Nat.reduceSub,Nat.reduceLeDiff,reduceCtorEq,this]))) hS hF (aY p k) t (Ck Q7),?_⟩
   refine hN _ _ ?_
   clear hN N
   cases hb:ew s ts (aY p k) t
   ·rw[hb,if_neg (by simp)]at wT
    (try((repeat(revert hN;revert N;apply Pn.out));refine wk (tw @b21 (tw @bg0 (tw @bg1 (tw @b0 (tw @b3 (tw @b5 (tw @b8 (tw @Hq @hb)))))))) ?_;(repeat(refine Pn.mk ?_;intro N hN))))
    refine fh ?_ ?_ ?_ (by(try dsimp only);exact⟨by omega,bk.frame (Nat.le_refl _) ha.ov (Nat.le_refl _) (fun x hx=>by
      have h1:=dz (i:=x) (n:=st_b.next) (by omega)
      simp only[go_sem, ↓reduceIte,Nat.reduceEqDiff,Nat.reduceAdd,Nat.reduceSub,Nat.reduceLeDiff,reduceCtorEq,h1]),by
     rw[wT]
     rcases b6 with⟨hL,h⟩|⟨o,h1,h2,h3,h4,h5⟩
     ·exact .inl ⟨hL,sd @h⟩
     ·have h8:=dz h5
      exact .inr ⟨o,sd @h1,sd (tw @h2 @h8),h3,h4,by omega⟩⟩)
    all_goals simp only[go_sem, ↓reduceIte,Nat.reduceEqDiff,Nat.reduceAdd,Nat.reduceSub,Nat.reduceLeDiff,reduceCtorEq,b21,bg0,bg1,b0,b3,b5,b8,Hq,ab,vt,vq]
   ·rw[hb,if_pos rfl]at wT
    have xW:(L++[(t:Int)]).length=L.length+1:=by simp
    have xf:(L++[(t:Int)]).map aG=L.map aG++[[.int .i64 t]]:=by rw[List.map_append];rfl
    rcases b6 with⟨hL,b6⟩|⟨o,b6,bo,o4,o6,o7⟩
    ·subst hL
     (try((repeat(revert hN;revert N;apply Pn.out));refine wk (tw @b21 (tw @bg0 (tw @bg1 (tw @b0 (tw @b3 (tw @b5 (tw @b8 (tw @Hq (tw @b6 @hb))))))))) ?_;(repeat(refine Pn.mk ?_;intro N hN))))
     refine fh ?_ ?_ ?_ (by(try dsimp only);exact⟨by omega,bk.frame (Nat.le_refl _) ha.ov (Nat.le_refl _) (fun x hx=>by
      have h1:=dz (i:=x) (n:=st_b.next) (by omega)
      simp only[go_sem, ↓reduceIte,Nat.reduceEqDiff,Nat.reduceAdd,Nat.reduceSub,Nat.reduceLeDiff,reduceCtorEq,h1]),.inr ⟨⟨127010003,st_b.next+1+1+1⟩,by rw[wT,xW];simp only[go_sem, ↓reduceIte,Nat.reduceEqDiff,Nat.reduceAdd,Nat.reduceSub,Nat.reduceLeDiff,reduceCtorEq]<;>rfl,by rw[wT,xf];simp only[go_sem, ↓reduceIte,Nat.reduceEqDiff,Nat.reduceAdd,Nat.reduceSub,Nat.reduceLeDiff,reduceCtorEq]<;>rfl,by rw[wT,xW];omega,by(try dsimp only);omega,by(try dsimp only);omega⟩⟩)
     all_goals simp only[go_sem, ↓reduceIte,Nat.reduceEqDiff,Nat.reduceAdd,Nat.reduceSub,Nat.reduceLeDiff,reduceCtorEq,b21,bg0,bg1,b0,b3,b5,b8,Hq,ab,vt,vq]
    ·have e1:L.length<=16777215:=by omega
     have xV:(L.map aG).length=L.length:=by simp
     have vo:=dz o7
     have vto:=dq (a:=⟨127000000,σ.next⟩) (b:=o) (by(try dsimp only);omega)
     have vqo:=dq (a:=⟨127004003,st_a.next+1+1⟩) (b:=o) (by(try dsimp only);omega)
     (try((repeat(revert hN;revert N;apply Pn.out));refine wk (tw @b21 (tw @bg0 (tw @bg1 (tw @b0 (tw @b3 (tw @b5 (tw @b8 (tw @Hq (tw @b6 (tw @bo (tw @hb (tw @e1 (tw @xV @vo))))))))))))) ?_;(repeat(refine Pn.mk ?_;intro N hN))))
     refine fh ?_ ?_ ?_ (by(try dsimp only);exact⟨by omega,bk.frame (Nat.le_refl _) ha.ov (Nat.le_refl _) (fun x hx=>by
      have h1:=dz (i:=x) (n:=st_b.next) (by omega)
      have h2:=dq (a:=x) (b:=o) (by omega)
      simp only[go_sem, ↓reduceIte,Nat.reduceEqDiff,Nat.reduceAdd,Nat.reduceSub,Nat.reduceLeDiff,reduceCtorEq,h1,h2]),.inr ⟨⟨127010003,st_b.next+1+1+1⟩,by rw[wT,xW];simp only[go_sem, ↓reduceIte,Nat.reduceEqDiff,Nat.reduceAdd,Nat.reduceSub,Nat.reduceLeDiff,reduceCtorEq]<;>rfl,by rw[wT,xf];simp only[go_sem, ↓reduceIte,Nat.reduceEqDiff,Nat.reduceAdd,Nat.reduceSub,Nat.reduceLeDiff,reduceCtorEq]<;>rfl,by rw[wT,xW];omega,by(try dsimp only);omega,by(try dsimp only);omega⟩⟩)
     all_goals simp only[go_sem, ↓reduceIte,Nat.reduceEqDiff,Nat.reduceAdd,Nat.reduceSub,Nat.reduceLeDiff,reduceCtorEq,b21,bg0,bg1,b0,b3,b5,b8,Hq,ab,vt,vq,vto,vqo]
  ·obtain⟨es,hg,how⟩:=bk.2.2
   have vo:=dz Py.ov
   obtain⟨fi,E3,rE,N0,_,_⟩:=yi (aY p k) es
   unfold dI at rE
   unfold dS at N0
   have hq:((⟨127000000,σ.next⟩:Id)=O)=False:=(dq (a:=O) (b:=⟨127000000,σ.next⟩) (by have:=h.ov;(try dsimp only);omega)).2
   have htt:t=s.aB.ah.length:=by omega
   subst htt
   have sI:kq (ew s ts) (aY p k) s.aB.ah.length=iI s ts (aY p k):=rfl
   rw[sI]at b6
   have hAk:∀q,(A q∨∃j:Nat,j<k+1/\q=aY p j)->(A q∨∃j:Nat,j<k/\q=aY p j)∨q=aY p k:=fun q hq=>by
    rcases hq with hq|⟨j,hj,hq⟩
    ·exact .inl (.inl hq)
    ·rcases Nat.lt_or_ge j k with h|h
     ·exact .inl (.inr ⟨j,h,hq⟩)
     ·exact .inr (by rw[hq,show j=k by omega])
   rcases b6 with⟨hL,b6⟩|⟨o,b6,bo,o4,o6,o7⟩
   ·have d0:decide ((0:Int)<((0:Nat):Int))=false:=rfl
    (try((repeat(revert hN;revert N;apply Pn.out));refine wk (tw @b21 (tw @bg0 (tw @bg1 (tw @b0 (tw @b3 (tw @b5 (tw @b8 (tw @Hq (tw @b6 (tw @ht (tw @h2 (tw @v2 (tw @vt (tw @vq (tw @vo (tw @hg (tw @E3 (tw @N0 (tw @ab.eq_1 @d0))))))))))))))))))) ?_;(repeat(refine Pn.mk ?_;intro N hN))))
    refine cz ?_ ?_ (by(try dsimp only);exact⟨by omega,bk.cut hg how (by omega) (fun x hx Lp=>by
     have h1:=dz (i:=x) (n:=st_b.next) (by omega)
     have h2:(x=O)=False:=eq_false Lp
     simp only[go_sem, ↓reduceIte,Nat.reduceEqDiff,Nat.reduceAdd,Nat.reduceSub,Nat.reduceLeDiff,reduceCtorEq,h1,h2]) hL (sl @N0) hAk⟩)
    all_goals simp only[go_sem, ↓reduceIte,Nat.reduceEqDiff,Nat.reduceAdd,Nat.reduceSub,Nat.reduceLeDiff,reduceCtorEq,a8,ag0,a0,a3,b21,bg0,bg1,b0,b3,b5,b8,Hq,ab,vt,vo,hq]
   ·have gU:iI s ts (aY p k)≠[]:=fun e=>by rw[e]at o4;cases o4
    have d1:decide ((0:Int)<((iI s ts (aY p k)).length:Int))=true:=decide_eq_true (by omega)
    have IL:=rE (.own o 0 (iI s ts (aY p k)).length)
    have v8:=dz o7
    have oO:(o=O)=False:=eq_false (by
     rintro rfl
     rw[hg]at bo
     injection bo with bo
     injection bo with _ bo _
     exact D9 bo)
    (try((repeat(revert hN;revert N;apply Pn.out));refine wk (tw @b21 (tw @bg0 (tw @bg1 (tw @b0 (tw @b3 (tw @b5 (tw @b8 (tw @Hq (tw @b6 (tw @ht (tw @h2 (tw @v2 (tw @vt (tw @vq (tw @vo (tw @hg (tw @E3 (tw @IL (tw @ab.eq_1 @d1))))))))))))))))))) ?_;(repeat(refine Pn.mk ?_;intro N hN))))
    refine cz ?_ ?_ (by(try dsimp only);exact⟨by omega,bk.put hg how (by omega) (fun x hx Lp=>by
     have h1:=dz (i:=x) (n:=st_b.next) (by omega)
     have h2:(x=O)=False:=eq_false Lp
     simp only[go_sem, ↓reduceIte,Nat.reduceEqDiff,Nat.reduceAdd,Nat.reduceSub,Nat.reduceLeDiff,reduceCtorEq,h1,h2]) (o:=o) gU (by omega) (sd (tw @oO (tw @v8 @bo))) (sl @IL) hAk⟩)
    all_goals simp only[go_sem, ↓reduceIte,Nat.reduceEqDiff,Nat.reduceAdd,Nat.reduceSub,Nat.reduceLeDiff,reduceCtorEq,a8,ag0,a0,a3,b21,bg0,bg1,b0,b3,b5,b8,Hq,ab,vt,vo,hq]
 ·have Uc:k=4:=by omega
  subst Uc
  (try((repeat(revert hN;revert N;apply Pn.out));refine wk (tw @a8 (tw @ag0 (tw @a0 (tw @a3 @hk)))) ?_;(repeat(refine Pn.mk ?_;intro N hN))))
  exact ft (.inr rfl) (vs:=[]) rfl ⟨rfl,ak.frame (Nat.le_refl _) ha.ov (by(try dsimp only);omega) (fun x hx=>rfl)⟩
end Go.Proofs.YtgoelphibofcmaaGreat.V

namespace Go.Proofs.YtgoelphibofcmaaGreat.V
open Go.RowKit
attribute [local irreducible] eb wpOps gj Call
attribute [local go_sem] aJ fM eP fZ fY cL upd cu K.av cN AV.cells AV.cell rowOf rowsOf part ld rowAt bI bW dD ee gT bL dc ev fU eY dr ej da cZ dO dR bR aX cR bQ cV cU eh ek ei cQ bV db ef bP aP cX cE gS bw cJ bU aW dx bj dE AV.undef bD bF dV ec dI dS cF eu eB cD ep eo cW cY List.getD_cons_zero List.getD_cons_succ List.getD_nil List.all_cons List.all_nil Bool.and_true Bool.true_and Bool.and_self Bool.not_true Bool.not_false Option.map_some Option.map_none Option.bind_some Option.bind_none List.length_cons List.length_nil List.take_succ_cons List.take_zero List.take_nil List.drop_succ_cons List.drop_zero List.drop_nil List.head?_cons List.map_cons List.map_nil List.getElem?_cons_zero List.getElem?_cons_succ List.cons_append List.nil_append List.append_nil List.length_map List.set_cons_zero List.set_cons_succ Nat.reduceMul eq_self Int.toNat_natCast Int.natCast_nonneg and_self true_and and_true decide_true decide_false Bool.false_eq_true Nat.zero_add Nat.add_zero List.contains_cons List.contains_nil Bool.or_false Bool.false_or beq_self_eq_true Nat.reduceBEq ne_eq not_true_eq_false not_false_eq_true Id.mk.injEq false_and and_false Nat.reduceLT Int.reduceLE Int.reduceLT Int.reduceToNat Int.reduceNeg Int.reduceAdd Nat.le_refl List.length_append beq_true beq_false Bool.not_eq_eq_eq_not or_false false_or dM aj aq aH bd bz ck aU bf aT aZ cP bH
structure HD (g:Rows) (n:Nat) (c T O:Id) (s:aD) (ts:List ae):Prop where
 o:po g n c T O s ts
 op:∃es:List En,g O=some ⟨true,mP.lJ,es.map pz⟩/\uF g n es (iI s ts) (fun _=>True)
theorem HD.frame {g g':Rows} {n n':Nat} {c T O:Id} {s:aD} {ts:List ae} (h:HD g n c T O s ts) (hn:n<=n') (hf:∀x:Id,x.bm<n->g' x=g x):HD g' n' c T O s ts:=
 ⟨h.o.frame hn hf,by
  obtain⟨es,h1,h2⟩:=h.op
  exact⟨es,(hf _ h.o.ov).trans h1,h2.frame hn fun x hx _=>hf x hx⟩⟩
theorem po.Rm {σ:au} {g:Rows} {n:Nat} {c T O:Id} {s:aD} {ts:List ae} {A:ai->Prop} (h:po σ.get σ.next c T O s ts) (k:iu σ O s ts A g n):po g n c T O s ts:=h.look k.ow
theorem Il {s:aD} (hT:1<=s.ay) {ts:List ae} {q:ai} (h:∀t∈ts,∀k:Nat,k<4->q≠aY t.bx k):iI s ts q=[]:=by
 unfold iI
 refine EX (fun t=>?_) _
 cases hb:ew s ts q t
 ·rfl
 ·exfalso
  simp[ew]at hb
  obtain⟨⟨h1,h2⟩,h3⟩:=hb
  obtain⟨k,hk,h4⟩:=bind_some (s:=s.aB) (F:=gK ts) (p:=q) (t:=t) 4 (by have:pO s.aB (gK ts) q t=dp s.aB (gK ts) q t 4:=rfl;omega)
  have h5:0<=eK ts (aY q k):=by
   unfold gK at h4
   split at h4
   ·assumption
   ·omega
  obtain⟨h6,h7⟩:=kj h5
  have Oa:(kn k).toNat<4/\((kn k).toNat:Int)=kn k:=by
   have:k=0∨k=1∨k=2∨k=3:=by omega
   rcases this with rfl|rfl|rfl|rfl<;>decide
  refine h _ (kP h6) (kn k).toNat Oa.1 ?_
  rw[h7,Oa.2,yy q k hk]
theorem B8 {l:List ae} {t:ae} (h:t∈l):∃j,j<l.length/\t=aV l j:=by
 obtain⟨j,hj,rfl⟩:=List.getElem_of_mem h
 exact⟨j,hj,(gR hj).symm⟩
def CN (s:aD) (l:List ae) (j:Nat) (q:ai):Prop:=iI s l q=[]/\(∀i:Nat,i<l.length->∀k:Nat,k<4->q≠aY (aV l i).bx k)∨∃i:Nat,i<j/\∃k:Nat,k<4/\q=aY (aV l i).bx k
theorem J1 {s:aD} (hT:1<=s.ay) (l:List ae) (q:ai):CN s l l.length q:=by
 by_cases h:∃i:Nat,i<l.length/\∃k:Nat,k<4/\q=aY (aV l i).bx k
 ·exact .inr h
 ·have h2:∀i:Nat,i<l.length->∀k:Nat,k<4->q≠aY (aV l i).bx k:=fun i hi k hk e=>h ⟨i,hi,k,hk,e⟩
  exact .inl ⟨Il hT fun t ht k hk=>by
   obtain⟨j,hj,rfl⟩:=B8 ht
   exact h2 j hj k hk,h2⟩
def SX (σ:au) (s:aD) (ts:List ae) (r:AV) (σ':au):Prop:=
 ∃c T O:Id,r=.ptr c 0 0/\HD σ'.get σ'.next c T O s ts/\σ.next<=c.bm/\σ.next<=T.bm/\σ.next<=O.bm/\σ.next<=σ'.next/\∀x:Id,x.bm<σ.next->σ'.get x=σ.get x
theorem zE (s:aD) (hS:iA s.aB) (TE:1<=s.ay) (l:List ae) (hA:kz s.aB l) (σ:au):Call Tryz.prog 73 [.agg (aC s),.agg [.sl (l.map ad)]] σ (SX σ s l):=by
 refine eU eJ rfl fun mM=>?_
 clear mM
 have Gf:=hA.1.Cu
 (try((repeat(revert hN;revert N;apply Pn.out));refine wk @aC.eq_1 ?_;(repeat(refine Pn.mk ?_;intro N hN))))
 refine aO (fun n env st=>∃k:Nat,n=(l.length)-k/\k<=(l.length)/\env 18=.int .i64 (k:Int)/\st.get ⟨73001004,σ.next+1⟩=some ⟨true,6,[[.sl (s.aB.ax.map bG),.sl (s.aB.ah.map bp),.sl (s.cq.ah.map ad),.int .i64 s.ay,.map ⟨73001001,σ.next+1⟩ mP,.map ⟨73001002,σ.next+1⟩ mP]]⟩/\st.get ⟨73001001,σ.next+1⟩=some ⟨true,mP.lJ,(l.take k).map ad⟩/\st.get ⟨73001002,σ.next+1⟩=some ⟨true,mP.lJ,[]⟩/\st.get ⟨73000001,σ.next⟩=some ⟨true,1,[[.sl (l.map ad)]]⟩/\(σ.next+3<=st.next/\∀x:Id,x.bm<σ.next->st.get x=σ.get x)) (l.length) ⟨0,by omega,by omega,sl @Nat.zero_add,sl @Nat.zero_add,sl @Nat.zero_add,sl @Nat.zero_add,sl @Nat.zero_add,⟨by(try dsimp only);omega,fun x hx=>by
  have:=dz hx
  simp only[go_sem, ↓reduceIte,Nat.reduceEqDiff,Nat.reduceAdd,Nat.reduceSub,Nat.reduceLeDiff,reduceCtorEq,this]⟩⟩ ?_
 rintro n_a env_a st_a ⟨k,rfl,ale,a18,ag0,ag1,ag2,ag3,ke⟩ dv
 have a3:=dv 3 (by kernel_rfl);have a5:=dv 5 (by kernel_rfl);have Ps:=dv 16 (by kernel_rfl);have a17:=dv 17 (by kernel_rfl)
 simp only[go_sem, ↓reduceIte,Nat.reduceEqDiff,Nat.reduceAdd,Nat.reduceSub,Nat.reduceLeDiff,reduceCtorEq]at a3 a5 Ps a17
 clear dv
 obtain⟨an,dv⟩:=ke
 have v1:=dz (i:=⟨73001004,σ.next+1⟩) (n:=st_a.next) (by(try dsimp only);omega)
 have v2:=dz (i:=⟨73001001,σ.next+1⟩) (n:=st_a.next) (by(try dsimp only);omega)
 have v3:=dz (i:=⟨73001002,σ.next+1⟩) (n:=st_a.next) (by(try dsimp only);omega)
 have v4:=dz (i:=⟨73000001,σ.next⟩) (n:=st_a.next) (by(try dsimp only);omega)
 by_cases hk:(k:Int)<(l.length:Int)
 ·have cz:∀{e:Env} {gg:Rows} {nx:Nat},(e 18=.int .i64 (IntKind.i64.wrap ((k:Int)+1)))->(gg ⟨73001004,σ.next+1⟩=some ⟨true,6,[[.sl (s.aB.ax.map bG),.sl (s.aB.ah.map bp),.sl (s.cq.ah.map ad),.int .i64 s.ay,.map ⟨73001001,σ.next+1⟩ mP,.map ⟨73001002,σ.next+1⟩ mP]]⟩)->(gg ⟨73001001,σ.next+1⟩=some ⟨true,mP.lJ,(l.take (k+1)).map ad⟩)->(gg ⟨73001002,σ.next+1⟩=some ⟨true,mP.lJ,[]⟩)->(gg ⟨73000001,σ.next⟩=some ⟨true,1,[[.sl (l.map ad)]]⟩)->(σ.next+3<=nx/\∀x:Id,x.bm<σ.next->gg x=σ.get x)->∃m0,m0<(l.length)-k/\∃k:Nat,m0=(l.length)-k/\k<=(l.length)/\e 18=.int .i64 (k:Int)/\gg ⟨73001004,σ.next+1⟩=some ⟨true,6,[[.sl (s.aB.ax.map bG),.sl (s.aB.ah.map bp),.sl (s.cq.ah.map ad),.int .i64 s.ay,.map ⟨73001001,σ.next+1⟩ mP,.map ⟨73001002,σ.next+1⟩ mP]]⟩/\gg ⟨73001001,σ.next+1⟩=some ⟨true,mP.lJ,(l.take k).map ad⟩/\gg ⟨73001002,σ.next+1⟩=some ⟨true,mP.lJ,[]⟩/\gg ⟨73000001,σ.next⟩=some ⟨true,1,[[.sl (l.map ad)]]⟩/\(σ.next+3<=nx/\∀x:Id,x.bm<σ.next->gg x=σ.get x):=fun x1 x2 x3 x4 x5 x6=>⟨_,by omega,k+1,rfl,by omega,(by rw[x1,az (by omega)]),x2,x3,x4,x5,x6⟩
  have fa:k<l.length:=by omega
  have hg:=ga fa
  have hm:=vQ (JS hA.1.M1 fa)
  have o3:=Mc fa
  (try((repeat(revert hN;revert N;apply Pn.out));refine wk (tw @a18 (tw @ag0 (tw @ag1 (tw @ag2 (tw @ag3 (tw @a3 (tw @a5 (tw @Ps (tw @a17 (tw @hk (tw @hg (tw @hm (tw @v1 (tw @v2 (tw @v3 (tw @v4 @ad.eq_1)))))))))))))))) ?_;(repeat(refine Pn.mk ?_;intro N hN))))
  refine cz ?_ ?_ ?_ ?_ ?_ (by(try dsimp only);exact⟨by omega,fun x hx=>by
   have h1:=dz (i:=x) (n:=st_a.next) (by omega)
   have h2:=dq (a:=x) (b:=⟨73001001,σ.next+1⟩) (by(try dsimp only);omega)
   have h3:=dv x hx
   simp only[go_sem, ↓reduceIte,Nat.reduceEqDiff,Nat.reduceAdd,Nat.reduceSub,Nat.reduceLeDiff,reduceCtorEq,h1,h2,h3]⟩)
  all_goals simp only[go_sem, ↓reduceIte,Nat.reduceEqDiff,Nat.reduceAdd,Nat.reduceSub,Nat.reduceLeDiff,reduceCtorEq,a18,ag0,ag1,ag2,ag3,a3,a5,Ps,a17,ad,v1,v2,v3,v4,o3]
 ·have k8:k=l.length:=by omega
  subst k8
  have oE:l.take l.length=l:=List.take_length
  (try((repeat(revert hN;revert N;apply Pn.out));refine wk (tw @a18 (tw @ag0 (tw @ag1 (tw @ag2 (tw @ag3 (tw @a3 (tw @a5 (tw @Ps (tw @a17 (tw @hk (tw @v1 (tw @v2 (tw @v3 @v4))))))))))))) ?_;(repeat(refine Pn.mk ?_;intro N hN))))
  refine aO (fun n env st=>∃j:Nat,n=(l.length)-j/\j<=(l.length)/\env 34=.int .i64 (j:Int)/\(σ.next+3<=st.next/\po st.get st.next ⟨73001004,σ.next+1⟩ ⟨73001001,σ.next+1⟩ ⟨73001002,σ.next+1⟩ s l/\(∀x:Id,x.bm<σ.next->st.get x=σ.get x)/\∃es:List En,st.get ⟨73001002,σ.next+1⟩=some ⟨true,mP.lJ,es.map pz⟩/\uF st.get st.next es (iI s l) (CN s l j))) (l.length) ⟨0,by omega,by omega,sl (tw @a18 (tw @ag0 (tw @ag1 (tw @ag2 (tw @ag3 (tw @a3 (tw @a5 (tw @Ps @a17)))))))),by(try dsimp only);exact⟨by omega,⟨sd @ag0,sd (tw @ag1 @oE),⟨[],sd @ag2,by intro r hr;cases hr⟩,by(try dsimp only);omega,by(try dsimp only);omega,by(try dsimp only);omega,(by intro e;injection e with e1 e2;revert e1;decide),(by intro e;injection e with e1 e2;revert e1;decide),(by intro e;injection e with e1 e2;revert e1;decide)⟩,fun x hx=>by
   have h3:=dv x hx
   simp only[go_sem, ↓reduceIte,Nat.reduceEqDiff,Nat.reduceAdd,Nat.reduceSub,Nat.reduceLeDiff,reduceCtorEq,h3],[],sl @ag2,List.nodup_nil,fun q hq=>.inl ⟨by
    rcases hq with hq|⟨i,hi,_⟩
    ·exact hq.1
    ·exact absurd hi (Nat.not_lt_zero i),fun e he=>by cases he⟩⟩⟩ ?_
  rintro n_b env_b st_b ⟨j,rfl,ble,b34,bI0⟩ eV
  have b5:=eV 5 (by kernel_rfl);have ta:=eV 32 (by kernel_rfl);have tN:=eV 33 (by kernel_rfl)
  simp only[go_sem, ↓reduceIte,Nat.reduceEqDiff,Nat.reduceAdd,Nat.reduceSub,Nat.reduceLeDiff,reduceCtorEq,a18,ag0,ag1,ag2,ag3,a3,a5,Ps,a17]at b5 ta tN
  clear eV
  obtain⟨bn,bC,eV,es,bO,bS⟩:=bI0
  by_cases hj:(j:Int)<(l.length:Int)
  ·have fh:∀{e:Env} {gg:Rows} {nx:Nat},(e 34=.int .i64 (IntKind.i64.wrap ((j:Int)+1)))->(σ.next+3<=nx/\po gg nx ⟨73001004,σ.next+1⟩ ⟨73001001,σ.next+1⟩ ⟨73001002,σ.next+1⟩ s l/\(∀x:Id,x.bm<σ.next->gg x=σ.get x)/\∃es:List En,gg ⟨73001002,σ.next+1⟩=some ⟨true,mP.lJ,es.map pz⟩/\uF gg nx es (iI s l) (CN s l (j+1)))->∃m0,m0<(l.length)-j/\∃j:Nat,m0=(l.length)-j/\j<=(l.length)/\e 34=.int .i64 (j:Int)/\(σ.next+3<=nx/\po gg nx ⟨73001004,σ.next+1⟩ ⟨73001001,σ.next+1⟩ ⟨73001002,σ.next+1⟩ s l/\(∀x:Id,x.bm<σ.next->gg x=σ.get x)/\∃es:List En,gg ⟨73001002,σ.next+1⟩=some ⟨true,mP.lJ,es.map pz⟩/\uF gg nx es (iI s l) (CN s l j)):=fun x1 x2=>⟨_,by omega,j+1,rfl,by omega,(by rw[x1,az (by omega)]),x2⟩
   have ia:j<l.length:=by omega
   have hg:=ga ia
   have MM:=sS (hA.1.pt ia)
   (try((repeat(revert hN;revert N;apply Pn.out));refine wk (tw @b34 (tw @b5 (tw @ta (tw @tN (tw @hj (tw @hg @ad.eq_1)))))) ?_;(repeat(refine Pn.mk ?_;intro N hN))))
   have hG:∀x:Id,x.bm<st_b.next->(bI (bI st_b.get ⟨73009002,st_b.next+1⟩ ⟨true,3,[[.int .i64 0,.int .i64 0,.int .i64 0]]⟩) ⟨73009002,st_b.next+1⟩ ⟨true,3,[[.int .i64 (aV l j).bx.eM,.int .i64 (aV l j).bx.eI,.int .i64 (aV l j).bB]]⟩) x=st_b.get x:=fun x hx=>by
    have h1:=dz hx
    simp only[go_sem, ↓reduceIte,Nat.reduceEqDiff,Nat.reduceAdd,Nat.reduceSub,Nat.reduceLeDiff,reduceCtorEq,h1]
   have R4:po (bI (bI st_b.get ⟨73009002,st_b.next+1⟩ ⟨true,3,[[.int .i64 0,.int .i64 0,.int .i64 0]]⟩) ⟨73009002,st_b.next+1⟩ ⟨true,3,[[.int .i64 (aV l j).bx.eM,.int .i64 (aV l j).bx.eI,.int .i64 (aV l j).bB]]⟩) (st_b.next+1+1+1) ⟨73001004,σ.next+1⟩ ⟨73001001,σ.next+1⟩ ⟨73001002,σ.next+1⟩ s l:=bC.frame (by omega) hG
   refine .inr (aL _ _ _ _ _ (fun r σ1 hq=>?_) (zr (σ:=⟨bI (bI st_b.get ⟨73009002,st_b.next+1⟩ ⟨true,3,[[.int .i64 0,.int .i64 0,.int .i64 0]]⟩) ⟨73009002,st_b.next+1⟩ ⟨true,3,[[.int .i64 (aV l j).bx.eM,.int .i64 (aV l j).bx.eI,.int .i64 (aV l j).bB]]⟩,st_b.next+1+1+1⟩) R4.Kd R4.cO R4.TO (CN s l j) ⟨es,(hG _ (by(try dsimp only);omega)).trans bO,bS.frame (by(try dsimp only);omega) fun x hx _=>hG x hx⟩ hS (iA.Mv hA) (aV l j).bx MM.1 MM.2))
   obtain⟨g1,x1⟩:=σ1
   obtain⟨rfl,hL⟩:=hq
   (try dsimp only at hL)
   have hC2:=R4.Rm hL
   have hLn:=hL.1
   have hLf:=hL.2.1
   obtain⟨es2,TA,KY⟩:=hL.2.2
   (try dsimp only at hLn hLf)
   have hAj:∀q,CN s l (j+1) q->CN s l j q∨∃k:Nat,k<4/\q=aY (aV l j).bx k:=fun q hq=>by
    rcases hq with hq|⟨i,hi,hq⟩
    ·exact .inl (.inl hq)
    ·rcases Nat.lt_or_ge i j with h|h
     ·exact .inl (.inr ⟨i,h,hq⟩)
     ·exact .inr (by rw[show i=j by omega]at hq;exact hq)
   refine hN _ _ ?_
   clear hN N
   (try((repeat(revert hN;revert N;apply Pn.out));refine wk (tw @b34 (tw @b5 (tw @ta @tN))) ?_;(repeat(refine Pn.mk ?_;intro N hN))))
   exact fh (sd (tw @b34 (tw @b5 (tw @ta @tN)))) (by(try dsimp only);exact⟨by omega,hC2.frame (by omega) (fun x hx=>rfl),fun x hx=>by
    have h1:=dz (i:=x) (n:=st_b.next) (by omega)
    have h2:=hLf x (by omega) (fun e=>by rw[e]at hx;(try dsimp only at hx);omega)
    have h3:=eV x hx
    simp only[h2]
    simp only[go_sem, ↓reduceIte,Nat.reduceEqDiff,Nat.reduceAdd,Nat.reduceSub,Nat.reduceLeDiff,reduceCtorEq,h1,h3],es2,TA,(KY.frame (by omega) fun x hx _=>rfl).mono hAj⟩)
  ·have gG:j=l.length:=by omega
   subst gG
   (try((repeat(revert hN;revert N;apply Pn.out));refine wk (tw @b34 (tw @b5 (tw @ta (tw @tN @hj)))) ?_;(repeat(refine Pn.mk ?_;intro N hN))))
   exact ft (.inl rfl) (vs:=[.ptr ⟨73001004,σ.next+1⟩ 0 0]) (sd @Nat.zero_add) ⟨_,_,_,rfl,⟨bC.frame (by(try dsimp only);omega) (fun x hx=>rfl),es,bO,(bS.frame (by(try dsimp only);omega) fun x hx _=>rfl).mono fun q _=>J1 TE l q⟩,by(try dsimp only);omega,by(try dsimp only);omega,by(try dsimp only);omega,by(try dsimp only);omega,eV⟩
end Go.Proofs.YtgoelphibofcmaaGreat.V

namespace Go.Proofs.YtgoelphibofcmaaGreat.V
open Go.RowKit
variable {P:Program} {w w':World} {D D':Nat->Prop} {ι ι':Names} {hs:Nat} {g:Rows}
theorem jw.It (hc:∀b x,D b->w'.cell? ⟨b,x,none⟩=w.cell? ⟨b,x,none⟩) {a:AV} {v:Value} (h:jw P w D a v):jw P w' D a v:=by
 induction h with
 |int k n=>exact .int k n
 |bool b=>exact .bool b
 |str s=>exact .str s
 |cr=>exact .cr
 |gI=>exact .gI
 |iS=>exact .iS
 |jc=>exact .jc
 |Am a c h=>exact .Am a c h
 |sl rows b o n c sz vs h1 h2 h3 h4 h5 h5' h6 _ ih=>exact .sl rows b o n c sz vs h1 h2 h3 h4 h5 h5' (fun i j hi hj=>(hc b _ h4).trans (h6 i j hi hj)) ih
 |dj cs b o vs h1 NL h2 _ ih=>exact .dj cs b o vs h1 NL (fun j hj=>(hc b _ h1).trans (h2 j hj)) ih
 |agg cs vs f h1 h2 h3 _ ih=>exact .agg cs vs f h1 h2 h3 ih
 |fn f cH vs g h1 h2 h3 _ ih=>exact .fn f cH vs g h1 h2 h3 ih
theorem dd.It (hc:∀b x,D b->w'.cell? ⟨b,x,none⟩=w.cell? ⟨b,x,none⟩) {a:AV} {v:Value} (h:dd P w D ι a v):dd P w' D ι a v:=by
 induction h with
 |eO a v h=>exact .eO a v (h.It hc)
 |map id m B h1 h2=>exact .map id m B h1 h2
 |rf id c B h1 h2=>exact .rf id c B h1 h2
 |own id off len o cap B h1 h2 h3 h4 h5 h6=>exact .own id off len o cap B h1 h2 h3 h4 h5 h6
 |ptr id i off B h1 h2=>exact .ptr id i off B h1 h2
 |agg cs vs f h1 h2 h3 _ ih=>exact .agg cs vs f h1 h2 h3 ih
 |iF cs vs f h1 h2 _ ih=>exact .iF cs vs f h1 h2 ih
 |fn f cH vs g h1 h2 h3 _ ih=>exact .fn f cH vs g h1 h2 h3 ih
 |tA f cH vs g h1 h2 h3 _ ih=>exact .tA f cH vs g h1 h2 h3 ih
def HG (w:World) (rr:Nat):Prop:=∃m s seen c,w.heap[rr]? =some (.mapIter m s seen c)
theorem HG.cell {rr:Nat} (h:HG w rr) (x:Nat):w.cell? ⟨rr,x,none⟩=none:=by
 obtain⟨m,s,seen,c,h⟩:=h
 simp[World.cell?,h]
structure Po (P:Program) (w:World) (D:Nat->Prop) (ι:Names) (m:MK) (L:List MapEntry) (left:List (List AV)):Prop where
 len:left.length=L.length
 at_:∀(i:Nat) (cs:List AV),left[i]? =some cs->∃(e:MapEntry) (kv vv:AV),L[i]? =some e/\part m.ka m.ks cs=some kv/\cs[m.ks]? =some vv/\dd P w D ι kv e.key/\dd P w D ι vv e.val
theorem Po.rep {m:MK} {L:List MapEntry} {left:List (List AV)} (h:Po P w D ι m L left) (hr:∀{a v},dd P w D ι a v->dd P w' D' ι' a v):Po P w' D' ι' m L left:=⟨h.len,fun i cs hi=>by
 obtain⟨e,kv,vv,h1,h2,h3,h4,h5⟩:=h.at_ i cs hi
 exact⟨e,kv,vv,h1,h2,h3,hr h4,hr h5⟩⟩
theorem mJ {α β:Type} {l:List α} {k:List β} {i j:Nat} {x:α} (hl:l.length=k.length) (h:(l.eraseIdx i)[j]? =some x):∃q:Nat,l[q]? =some x/\(k.eraseIdx i)[j]? =k[q]? :=by
 rw[List.getElem?_eraseIdx]at h
 split at h
 ·rename_i hj;exact⟨j,h,by rw[List.getElem?_eraseIdx,if_pos hj]⟩
 ·rename_i hj;exact⟨j+1,h,by rw[List.getElem?_eraseIdx,if_neg hj]⟩
theorem Po.erase {m:MK} {L:List MapEntry} {left:List (List AV)} (h:Po P w D ι m L left) {i:Nat} (hi:i<L.length):Po P w D ι m (L.eraseIdx i) (left.eraseIdx i):=⟨by
 rw[List.length_eraseIdx,List.length_eraseIdx,h.len],fun j cs hj=>by
 obtain⟨q,hq,he⟩:=mJ h.len hj
 obtain⟨e,kv,vv,h1,h2⟩:=h.at_ q cs hq
 exact⟨e,kv,vv,he.trans h1,h2⟩⟩
theorem nw:∀{l:List MapEntry} {i:Nat} {e:MapEntry},(l.map (·.born)).Nodup->l[i]? =some e->l.filter (fun x=>x.born !=e.born)=l.eraseIdx i
 |x::l,0,e,hn,h=>by
  simp at h;subst h
  obtain⟨h1,h2⟩:=List.nodup_cons.1 (show(x.born::l.map (·.born)).Nodup from hn)
  rw[List.filter_cons,if_neg (by simp),List.eraseIdx_cons_zero]
  refine List.filter_eq_self.2 fun y hy=>?_
  have:y.born≠x.born:=fun hc=>h1 (by rw[<-hc];exact List.mem_map_of_mem hy)
  simpa using this
 |x::l,i+1,e,hn,h=>by
  obtain⟨h1,h2⟩:=List.nodup_cons.1 (show(x.born::l.map (·.born)).Nodup from hn)
  simp only[List.getElem?_cons_succ]at h
  have hx:x.born≠e.born:=fun hc=>h1 (by rw[hc];exact List.mem_map_of_mem (List.mem_of_getElem? h))
  rw[List.filter_cons,if_pos (by simpa using hx),List.eraseIdx_cons_succ,nw h2 h]
theorem DP {es:Array MapEntry} {clock:Nat} {seen:Array Nat} {i:Nat} {e:MapEntry} (hs:FH es clock) (h:(leftOf es seen).toList[i]? =some e):(leftOf es (seen.push e.born)).toList=(leftOf es seen).toList.eraseIdx i:=by
 have hn:((leftOf es seen).toList.map (·.born)).Nodup:=by
  unfold leftOf
  rw[Array.toList_filter]
  exact((List.filter_sublist (p:=fun e=> !seen.contains e.born) (l:=es.toList)).map MapEntry.born).nodup hs.2
 rw[<-nw hn h]
 unfold leftOf
 rw[Array.toList_filter,Array.toList_filter,List.filter_filter]
 refine List.filter_congr fun x _=>?_
 rw[contains_push]
 cases seen.contains x.born<;>cases hb:(x.born==e.born)<;>simp_all
def CS (P:Program) (nt:Nat) (c:Code) (W:(Ex->Env->au->Prop)->Env->au->Prop):Prop:=
 ∀(hs:Nat) (Q:Ex->Env->au->Prop) (env:Env) (σ:au) (a:Act) (w:World) (D:Nat->Prop) (ι:Names) (Q':Exit->Act->World->Prop),W Q env σ->St P hs nt D ι env σ a w->uH P hs nt a.defers Q σ.next D ι w Q'->CJ P c Q' a w
theorem CS.code (hm:P.follows .mixedOrders=true) {md:List (Nat×Nat)} {nt uV:Nat} {c:Code} {vc:VC} (h:jy P md nt uV c=some vc):CS P nt c (eb (Sound P) vc):=
 fun _ Q env σ a w D ι Q' hv dH hQ=>uT hm c vc h Q env σ a w D ι Q' hv dH hQ
theorem CS.seq {nt:Nat} {x y:Code} {V W:(Ex->Env->au->Prop)->Env->au->Prop} (h:CS P nt x V) (k:CS P nt y W):CS P nt (.seq x y) (fun Q=>V (dx (W Q) Q)):=fun hs Q env σ a w D ι Q' hv dH hQ=>by
 refine Fm (h hs _ env σ a w D ι _ hv dH fun ex js σ1 a1 w1 D1 ι1 hq T jV hd hle=>?_)
 cases ex with
 |normal=>exact k hs Q js σ1 a1 w1 D1 ι1 Q' hq jV (by rw[hd];exact hQ.later T hle)
 |exit id=>exact hQ (.exit id) js σ1 a1 w1 D1 ι1 hq T jV hd hle
 |ret=>exact hQ .ret js σ1 a1 w1 D1 ι1 hq T jV hd hle
theorem CS.fn {f:Nat} {fn:Func} {c:Code} {args:List AV} {σ:au} {K:AV->au->Prop} {vr:List nU} {W:(Ex->Env->au->Prop)->Env->au->Prop} (PA:P.funcs[f]? =some fn) (hc:fn.body=some c) (hr:fn.results.toList.mapM (CY P)=some vr) (ha:fn.params.size+fn.nfree=args.length) (hle:fn.params.size+fn.nfree<=fn.ntmps)
  (h:CS P fn.ntmps c W) (hv:W (kU vr K) (cu args) σ):Call P f args σ K:=
 fE (uL PA hc hr ha hle fun hs w D ι a Q' dH hQ=>h hs (kU vr K) (cu args) σ a w D ι Q' hv dH hQ)
theorem vV {α:Type}:∀{l:List α} {i:Nat} {x:α},l[i]? =some x->(x::l.eraseIdx i).Perm l
 |y::l,0,x,h=>by simp at h;subst h;exact List.Perm.refl _
 |y::l,i+1,x,h=>by
  simp only[List.getElem?_cons_succ]at h
  rw[List.eraseIdx_cons_succ]
  exact(List.Perm.swap _ _ _).trans ((vV h).cons _)
end Go.Proofs.YtgoelphibofcmaaGreat.V

namespace Go.Proofs.YtgoelphibofcmaaGreat.V
open Go.RowKit
variable {P:Program} {hs:Nat}
theorem Hn {q n i:Nat} {ops:Array Oper} {Q:Exit->Act->World->Prop} {K K':Act->World->Prop} {a:Act} {w:World} (lN:∀(j:Nat) (o:Oper),ops[j]? =some o->∀c,o.op≠.defer c) (la:¬LetsOut Q) (hK:∀a w,K a w->K' a w) (h:wpOp P ops Q i K a w):wpOpIn (Fence.wide.inRound q) n P ops Q i K' a w:=by
 unfold wpOp at h
 unfold wpOpIn
 split at h
 ·rename_i ho;simp only[ho];exact hK _ _ h
 ·rename_i o ho
  simp only[ho]
  split at h
  ·rename_i hw
   rw[if_pos hw]
   replace h:=h.resolve_right fun hc=>la hc.2
   refine⟨fun _ _=>trivial,?_⟩
   rw[Oper.semAt_eq _ _ _ (lN i o ho)]
   unfold Oper.wp at h
   generalize (execOp a.eval o).run P w=r at *
   cases r with
   |ok m w'=>
    cases m<;>simp only[Oper.upon,Oper.uponIn]at h ⊢
    case value=>exact hK _ _ h
    case skip=>exact hK _ _ h
    case defer=>exact hK _ _ h
    case enter f args=>
     refine⟨fun h=>by simp[Fence.wide]at h,CallsIn.inRound q (callsIn_wide.2 (h.mono fun e Kt he=>?_))⟩
     cases e with
     |returned v=>exact hK _ _ he
     |panicked c=>exact he
     |outgrown=>exact he
    case row r args=>exact⟨fun h=>by simp[Fence.wide]at h,fun c cs _=>let ⟨v,Kt,h1,s⟩:=h c cs;⟨v,Kt,hK _ _ h1,stepsIn_wide.2 s⟩⟩
   |halt x w'=>cases x<;>simp only[Oper.upon,Oper.uponIn]at h ⊢;exact h
  ·rename_i hw
   rw[if_neg hw]
   exact⟨fun _ _=>trivial,hK _ _ h⟩
theorem wP {q n:Nat} {md:Region.Mode} {ops:Array Oper} {Q:Exit->Act->World->Prop} (lN:∀(j:Nat) (o:Oper),ops[j]? =some o->∀c,o.op≠.defer c) (la:¬LetsOut Q):∀(fuel:Nat) (listed:Array Bool) (a:Act) (w:World),wpAny P md ops Q fuel listed a w->wpAnyIn (Fence.wide.inRound q) n P md ops Q fuel listed a w
 |0,_,_,_,h=>h
 |fuel+1,listed,_,_,h=>⟨h.1,fun i hi=>Hn lN la (fun a w=>wP lN la fuel _ a w) (h.2 i hi)⟩
def Fe:Op->Bool
 | .defer _=>true
 |_=>false
theorem Ji {ops:Array Oper} (h:(ops.all fun o=> !Fe o.op)=true):∀(j:Nat) (o:Oper),ops[j]? =some o->∀c,o.op≠.defer c:=fun j o hj c hc=>by
 have:=Array.all_eq_true_iff_forall_mem.1 h o (Array.mem_of_getElem? hj)
 rw[hc]at this
 simp[Fe]at this
theorem zL (hm:P.follows .mixedOrders=true) {nt site0 id q n:Nat} {ops:Array Oper} {vl:List bq} (h:re P nt site0 ops true false=some vl) (lN:∀(j:Nat) (o:Oper),ops[j]? =some o->∀c,o.op≠.defer c)
  {K:Env->au->Prop} {env:Env} {σ:au} {a:Act} {w:World} {D:Nat->Prop} {ι:Names} {Q:Exit->Act->World->Prop} (hv:wpOps (Sound P) true vl K env σ) (dH:St P hs nt D ι env σ a w)
  (hK:∀iC σ' a' w' D' ι',K iC σ'->Step hs D ι w D' ι' w'->St P hs nt D' ι' iC σ' a' w'->a'.defers=a.defers->Q .normal a' w'):(Code.region id ops true).wpIn (Fence.wide.inRound q) n P Q a w:=by
 have dL:∃hidden s6,allM (lU P ops nt site0 true false (jr ops) hidden) ops.toList 0=some s6/\vl=s6/\oi ops s6 (jr ops)=true:=by
  unfold re at h
  simp only[if_true,Bool.not_true,Bool.false_or]at h
  split at h
  ·rename_i s6 h'
   split at h
   ·rename_i vp;simp at h;exact⟨_,s6,h',h.symm,vp⟩
   ·cases h
  ·cases h
 obtain⟨hidden,s6,dL,rfl,vp⟩:=dL
 obtain⟨rG,T0⟩:=dH.drew
 obtain⟨hlen,_⟩:=nW dL
 have kG:vl.length=ops.size:=by rw[hlen];simp
 have De:=wN (X:=Sound P) (K:=K) (n:=σ.next) vp kG vl 0 (Array.replicate ops.size false) env σ.get (by simp) (by simp) (fun i hi=>by simp[hi]) (by simp[kG]) (fun k i h=>by
  exfalso
  rcases Nat.lt_or_ge k ops.size with hk|hk
  ·simp[hk]at h
  ·simp[Nat.not_lt.2 hk]at h) hv
 rw[kG]at De
 have hw:=xu (Q:=fun e a w=>e=.normal/\Q .normal a w) dL ops.size _ env σ.get a w.drew D ι (fun _=>False) De rG.Kr rG.used (fun _ h=>h.elim) rG.env rG.size fun js g1 a1 w1 D1 ι1 U1 hk T S1 SY E1 x7 hd=>⟨rfl,hK js ⟨g1,σ.next+1⟩ a1 w1 D1 ι1 hk (T0.trans T) ⟨S1,SY.next,E1,x7⟩ hd⟩
 have fI:=wP (q:=q) (n:=n) (Q:=fun e a w=>e=.normal/\Q .normal a w) lN (by rintro⟨_,_,hc,_⟩;cases hc) ops.size _ a w.drew hw
 refine wpIn_mono (wpIn_region_any (id:=id) hm fI) ?_
 rintro e a w ⟨rfl,h⟩
 exact h
end Go.Proofs.YtgoelphibofcmaaGreat.V

namespace Go.Proofs.YtgoelphibofcmaaGreat.V
open Go.RowKit Go.Shelf
attribute [local go_sem] Oper.semAt_some
structure pq (W:World) (v:Value) (l:List ae):Prop where
 sl:∃A c,v=.slice A l.length c/\(l.length<=c/\c<=maxLen)/\(l=[]∨∃b o,A=some ⟨b,o,none⟩/\∀i,i<l.length->W.cell? ⟨b,o+(i*3+0),none⟩=some (.int .i64 (aV l i).bx.eM)/\W.cell? ⟨b,o+(i*3+1),none⟩=some (.int .i64 (aV l i).bx.eI)/\W.cell? ⟨b,o+(i*3+2),none⟩=some (.int .i64 (aV l i).bB))
structure HH (K:World->World->Prop) (v:Value) (l:List ae):Prop where
 refl:∀W,K W W
 trans:∀{A B C:World},K A B->K B C->K A C
 of:∀{W W':World},Below W.heap.size W W'->K W W'
 size:∀{W W':World},K W W'->W.heap.size<=W'.heap.size
 typed:∀{W W':World},K W W'->∀(b:Nat) (cells:Array Value) (T:TypeId) (fr:Nat×Nat),W.heap[b]? =some (Obj.cells cells T fr)->T≠226->T≠246->W'.heap[b]? =W.heap[b]?
 pl:∀{W W':World},K W W'->pq W v l->pq W' v l
theorem uf {W:World} {b x:Nat} {v:Value} (h:W.cell? ⟨b,x,none⟩=some v):b<W.heap.size:=by
 rcases Nat.lt_or_ge b W.heap.size with h1|h1
 ·exact h1
 ·simp[World.cell?,Array.getElem?_eq_none h1]at h
theorem pq.below {W W':World} {v:Value} {l:List ae} (h:pq W v l) (k:Below W.heap.size W W'):pq W' v l:=by
 obtain⟨A,c,rfl,hm,hc⟩:=h.sl
 refine⟨A,c,rfl,hm,?_⟩
 rcases hc with h0|⟨b,o,rfl,kb⟩
 ·exact .inl h0
 ·refine .inr ⟨b,o,rfl,fun i hi=>?_⟩
  obtain⟨h1,h2,h3⟩:=kb i hi
  have hb:=uf h1
  exact⟨(k.cell (p:=⟨b,_,none⟩) hb).trans h1,(k.cell (p:=⟨b,_,none⟩) hb).trans h2,(k.cell (p:=⟨b,_,none⟩) hb).trans h3⟩
theorem pq.eO {P:Program} {W:World} {v:Value} {l:List ae} (h:pq W v l):jw P W (fun b=>b<W.heap.size) (.sl (l.map ad)) v:=by
 obtain⟨A,c,rfl,hm,hc⟩:=h.sl
 rcases hc with rfl|⟨b,o,rfl,kb⟩
 ·exact .Am A c (by simpa using hm.2)
 by_cases PH:l=[]
 ·subst PH;exact .Am _ c (by simpa using hm.2)
 ·have lf:0<l.length:=List.length_pos_iff.2 PH
  have hb:=uf (kb 0 lf).1
  refine .sl (l.map ad) b o l.length c 3 (fun i j=>if j=0 then .int .i64 (aV l i).bx.eM else if j=1 then .int .i64 (aV l i).bx.eI else .int .i64 (aV l i).bB) (by simp) hm.1 hm.2 hb (fun cs dt=>?_) (fun cs dt a ha=>?_) (fun i j hi hj=>?_) (fun i j cs a hi hj=>?_)
  ·obtain⟨x,_,rfl⟩:=List.mem_map.1 dt;rfl
  ·obtain⟨x,_,rfl⟩:=List.mem_map.1 dt
   simp[ad]at ha
   rcases ha with rfl|rfl|rfl<;>rfl
  ·obtain⟨h1,h2,h3⟩:=kb i hi
   match j,hj with
   |0,_=>exact h1
   |1,_=>exact h2
   |2,_=>exact h3
   |j+3,hj=>omega
  ·have nz:i<l.length:=by have:=(List.getElem?_eq_some_iff.1 hi).1;simpa using this
   rw[ga nz]at hi
   injection hi with hi
   subst hi
   match j,hj with
   |0,hj=>simp[ad]at hj;subst hj;exact .int _ _
   |1,hj=>simp[ad]at hj;subst hj;exact .int _ _
   |2,hj=>simp[ad]at hj;subst hj;exact .int _ _
   |j+3,hj=>simp[ad]at hj
theorem AH {P:Program} (hm:P.follows .mixedOrders=true) {f:Nat} {args:List AV} {vs:Array Value} {w:World} {r:AV} (h:ar P f args r) (hr:∀g r0,gi g 6 r0=some r->r0=r) (hA:fe P w (fun b=>b<w.heap.size) (fun _=>none) args vs):
  Calls P f vs w fun e w'=>∃D ι u,e=.returned u/\dd P w' D ι r u/\Below w.heap.size w w':=by
 have hs:=gW hm (h 0) w.heap.size (fun b=>b<w.heap.size) (fun _=>none) w vs ⟨Nat.le_refl _,fun _ h=>h,fun id r h=>(by cases h),fun id kI r r' B B' h=>(by cases h)⟩ (fun id h=>absurd rfl h) hA
 refine hs.mono ?_
 rintro e w' ⟨r0,g',n',D',ι',u,rfl,⟨r',hz,rfl⟩,dH,hsim,_,_,gO⟩
 have:=hr _ _ hz
 subst this
 exact⟨D',ι',u,rfl,gO,dH.below⟩
theorem ox {g:Rows} {n:Nat} {a:AV} {k:IntKind} {m:Int} (h:gi g (n+1) a=some (.int k m)):a=.int k m:=by
 cases a<;>rw[gi]at h<;>simp_all
 all_goals (repeat' (split at h))<;>simp_all
theorem Db {g:Rows} {a:AV} {x y:Int} (h:gi g 6 a=some (.agg [.int .i64 x,.int .i64 y])):a=.agg [.int .i64 x,.int .i64 y]:=by
 cases a with
 |agg cs=>
  rw[KQ]at h
  simp only[Option.map_eq_some_iff,AV.agg.injEq,exists_eq_right]at h
  match cs,h with
  |[],h=>rw[cw]at h;simp at h
  |[a],h=>
   rw[bE,cw]at h
   cases ha:gi g 5 a<;>simp[ha]at h
  |[a,b],h=>
   rw[bE,bE,cw]at h
   cases ha:gi g 5 a<;>cases hb:gi g 5 b<;>simp[ha,hb]at h
   obtain⟨rfl,rfl⟩:=h
   rw[ox ha,ox hb]
  |a::b::c::r,h=>
   rw[bE,bE,bE]at h
   cases ha:gi g 5 a<;>cases hb:gi g 5 b<;>cases hc:gi g 5 c<;>cases hd:dZ g 5 r<;>simp[ha,hb,hc,hd]at h
 |_=>rw[gi]at h<;>simp_all<;>(repeat' (split at h))<;>simp_all
theorem Ef (W:World) (p:ai) (d:Int) (hd:iJ d 0 3=true) (hx:iB p.eM) (hy:iB p.eI):Calls Tryz.prog 149 #[.agg #[.int .i64 p.eM,.int .i64 p.eI],.int .i64 d] W fun e W'=>e=.returned (.agg #[.int .i64 (aY p d).eM,.int .i64 (aY p d).eI])/\Below W.heap.size W W':=by
 refine(AH mixed (Eh p d hd hx hy) (fun g r0 h=>Db h) ?_:Calls _ _ _ _ _).mono ?_
 ·exact l8 (vs:= #[.int .i64 d]) (.agg _ _ (fun j=>if j=0 then .int .i64 p.eM else .int .i64 p.eI) rfl (fun a ha=>by simp[ab]at ha;rcases ha with rfl|rfl<;>rfl) (fun j hj=>by match j,hj with|0,_=>rfl|1,_=>rfl|j+2,hj=>simp[ab]at hj;omega) (fun j a ha=>by match j,ha with|0,ha=>simp[ab]at ha;subst ha;exact .int _ _|1,ha=>simp[ab]at ha;subst ha;exact .int _ _|j+2,ha=>simp[ab]at ha)) (l8 (vs:= #[]) (.int _ _) wc)
 ·rintro e W' ⟨D,ι,u,rfl,hr,hB⟩
  refine⟨?_,hB⟩
  obtain⟨vs,f,rfl,fb,_,h1,h2⟩:=il hr
  have v0:=h1 0 (by simp[ab])
  have v1:=h1 1 (by simp[ab])
  rw[dn (h2 0 _ rfl)]at v0
  rw[dn (h2 1 _ rfl)]at v1
  obtain⟨vl⟩:=vs
  match vl,fb with
  |[a,b],_=>
   simp at v0 v1
   rw[v0,v1]
theorem xl (W:World) (l:List ae) (v:Value) (hP:pq W v l) (p:ai) (hR:sn l) (NM:l.length<=1048576):Calls Tryz.prog 265 #[.agg #[v],.agg #[.int .i64 p.eM,.int .i64 p.eI]] W fun e W'=>e=.returned (.int .i64 (eK l p))/\Below W.heap.size W W':=by
 refine(AH mixed (GQ l p hR NM) (fun g r0 h=>ox h) ?_:Calls _ _ _ _ _).mono ?_
 ·exact l8 (vs:= #[.agg #[.int .i64 p.eM,.int .i64 p.eI]]) (.agg _ _ (fun _=>v) rfl (fun a ha=>by simp at ha;rw[ha];rfl) (fun j hj=>by match j,hj with|0,_=>rfl|j+1,hj=>simp at hj) (fun j a ha=>by match j,ha with|0,ha=>simp at ha;subst ha;exact hP.eO|j+1,ha=>simp at ha)) (l8 (vs:= #[]) (.agg _ _ (fun j=>if j=0 then .int .i64 p.eM else .int .i64 p.eI) rfl (fun a ha=>by simp[ab]at ha;rcases ha with rfl|rfl<;>rfl) (fun j hj=>by match j,hj with|0,_=>rfl|1,_=>rfl|j+2,hj=>simp[ab]at hj;omega) (fun j a ha=>by match j,ha with|0,ha=>simp[ab]at ha;subst ha;exact .int _ _|1,ha=>simp[ab]at ha;subst ha;exact .int _ _|j+2,ha=>simp[ab]at ha)) wc)
 ·rintro e W' ⟨D,ι,u,rfl,hr,hB⟩
  exact⟨by rw[dn hr],hB⟩
theorem grown_of {W W':World} (h:Below W.heap.size W W'):W.grownBy W' none:=⟨h.os,h.tape,h.output,h.size,fun k hk _=>h.block k hk⟩
def BW (l:List ae) (i:Nat) (d:Int):List (Nat×Nat×Int):=if 0<=eK l (aY (aV l i).bx d)then[(i,(eK l (aY (aV l i).bx d)).toNat,d)]else[]
def kN (l:List ae) (i m:Nat):List (Nat×Nat×Int):=(List.range m).flatMap fun j:Nat=>BW l i (1-(j:Int))
def lh (l:List ae) (n:Nat):List (Nat×Nat×Int):=(List.range n).flatMap fun i=>kN l i 2
theorem l6 (l:List ae) (n:Nat):lh l (n+1)=lh l n++kN l n 2:=by simp[lh,List.range_succ]
theorem mT (l:List ae) (i m:Nat):kN l i (m+1)=kN l i m++BW l i (1-(m:Int)):=by simp[kN,List.range_succ]
theorem OK (l:List ae) {k m:Nat} (hk:k<l.length) (hm:m<=2):lh l k++kN l k m <+:lh l l.length:=by
 have h1:∀d,lh l k <+:lh l (k+d):=fun d=>by
  induction d with
  |zero=>exact List.prefix_refl _
  |succ d ih=>rw[<-Nat.add_assoc,l6 l (k+d)];exact ih.trans (List.prefix_append _ _)
 have h2:∀d,lh l (k+1) <+:lh l (k+1+d):=fun d=>by
  induction d with
  |zero=>exact List.prefix_refl _
  |succ d ih=>rw[<-Nat.add_assoc,l6 l (k+1+d)];exact ih.trans (List.prefix_append _ _)
 have h3:=h2 (l.length-(k+1))
 rw[show k+1+(l.length-(k+1))=l.length by omega,l6]at h3
 refine List.IsPrefix.trans ?_ h3
 have h4:kN l k m <+:kN l k 2:=by
  have:m=0∨m=1∨m=2:=by omega
  rcases this with rfl|rfl|rfl
  ·exact List.nil_prefix
  ·rw[mT l k 1];exact List.prefix_append _ _
  ·exact List.prefix_refl _
 exact(List.prefix_append_right_inj _).2 h4
def P4 (l:List ae) (x:Nat×Nat×Int):Prop:=x.1<l.length/\x.2.1<l.length/\(0<=x.2.2/\x.2.2<=1)
def ER (x:Nat×Nat×Int):Array Value:= #[.agg #[.int .i64 (x.1:Int),.int .i64 (x.2.1:Int)],.int .i64 x.2.2]
theorem Ls (l:List ae) (p:ai) (h:0<l.length:=by omega):eK l p<(l.length:Int):=by
 unfold eK
 split<;>omega
theorem Rs (l:List ae) (hA:j8 l) (q Ba:Nat) (vS:Value) (K:World->World->Prop) (kl:HH K vS l) (J Jx:List (Nat×Nat×Int)->World->Prop) (n:Nat) (hn:1<=n)
  (hY:∀pre x W,J pre W->pre.length<(lh l l.length).length->P4 l x->YieldAt Fence.wide (n-1) Tryz.prog q (ER x) W fun e W'=>
   (e=.returned (.bool true)/\J (pre++[x]) W'/\K W W')∨(e=.returned (.bool false)/\Jx (pre++[x]) W'))
  (W:World) (hJ:AbidesFrom W.heap.size J) (NP:W.heap[Ba]? =some (.cells #[vS] 41 (0,0))) (hP:pq W vS l) (h0:J [] W):
  CallsIn Fence.wide n Tryz.prog 264 #[.func (.yield q) #[] #[],.pointer (some ⟨Ba,0,none⟩)] W fun e W'=>(∃v,e=.returned v)/\
   ((∃ys,ys=lh l l.length/\J ys W')∨(∃pre,pre <+:lh l l.length/\Jx pre W')):=by
 obtain⟨A,cp,rfl,_,_⟩:=hP.sl
 refine callsIn_of_wp Tryz.func264 rfl trivial ?_ rfl
 simp only[Tryz.ntmps264,List.size_toArray,List.length_cons,List.length_nil,Nat.reduceAdd,Nat.reduceSub,Array.replicate_succ,Array.replicate_zero,List.push_toArray,List.append_toArray,List.nil_append,List.cons_append]
 have jA:W.cell? ⟨Ba,0,none⟩=some (.slice A l.length cp):=by simp[World.cell?,NP]
 gi_wp2
 gi_loopw [11] (fun i wr=>∃k:Nat,k<=l.length/\i=.int .i64 k/\J (lh l k) wr/\K W wr)
  (fun i _=>l.length-(intOf i).toNat)
 case atStart=>exact⟨0,Nat.zero_le _,rfl,h0,kl.refl _⟩
 case round=>
  obtain⟨k,hk,rfl,Qq,hKt⟩:=hrel
  by_cases dP:k<l.length
  ·have dt:∃b o,A=some ⟨b,o,none⟩/\wr.cell? ⟨b,o+k*3,none⟩=some (.int .i64 (aV l k).bx.eM)/\wr.cell? ⟨b,o+k*3+1,none⟩=some (.int .i64 (aV l k).bx.eI)/\wr.cell? ⟨b,o+k*3+2,none⟩=some (.int .i64 (aV l k).bB):=by
    obtain⟨A',c',hv,_,hc⟩:=(kl.pl hKt hP).sl
    cases hv
    rcases hc with rfl|⟨b,o,rfl,kb⟩
    ·simp at dP
    ·obtain⟨h1,h2,h3⟩:=kb k dP
     exact⟨b,o,rfl,by simpa using h1,by rw[Nat.add_assoc];exact h2,by rw[Nat.add_assoc];exact h3⟩
   obtain⟨b,o,rfl,hx,SK,ht⟩:=dt
   gi_wp2
   obtain⟨W2,Qy⟩:∃W2,(wr.alloc (.cells #[.int .i64 (aV l k).bx.eM,.int .i64 (aV l k).bx.eI,.int .i64 (aV l k).bB] 137)).alloc (.cells #[.int .i64 1,.int .i64 0] 2)=W2:=⟨_,rfl⟩
   have pD:Below wr.heap.size wr W2:=by rw[<-Qy];exact((Below.refl _ wr).alloc (Nat.le_refl _) _).alloc (by simp) _
   have Tv:W2.heap[wr.heap.size]? =some (.cells #[.int .i64 (aV l k).bx.eM,.int .i64 (aV l k).bx.eI,.int .i64 (aV l k).bB] 137 (0,0)):=by
    rw[<-Qy,Below.heap_alloc _ _ _ (by simp)];exact World.alloc_heap_new _ _
   have Tu:W2.heap[wr.heap.size+1]? =some (.cells #[.int .i64 1,.int .i64 0] 2 (0,0)):=by
    have:=World.alloc_heap_new (wr.alloc (.cells #[.int .i64 (aV l k).bx.eM,.int .i64 (aV l k).bx.eI,.int .i64 (aV l k).bB] 137)) (.cells #[.int .i64 1,.int .i64 0] 2)
    rw[World.size_alloc]at this
    rw[<-Qy];exact this
   have Qr:K W W2:=kl.trans hKt (kl.of pD)
   have Ty:J (lh l k++kN l k 0) W2:=by
    have:=hJ _ _ _ none Qq (grown_of pD) (fun r h=>by cases h)
    simpa[kN]using this
   rw[Qy]
   clear Qy
   generalize wr=w1 at *
   gi_loopw [18] (fun j wr=>∃m:Nat,m<=2/\j=.int .i64 m/\J (lh l k++kN l k m) wr/\K W2 wr)
    (fun j _=>2-(intOf j).toNat)
   case atStart=>exact⟨0,by omega,rfl,Ty,kl.refl _⟩
   case round=>
    obtain⟨m,hm,rfl,hJm,MC⟩:=hrel
    have Ug:m=0∨m=1∨m=2:=by omega
    by_cases ML:m<2
    ·have hkd:=kl.typed MC _ _ _ _ Tu (by decide) (by decide)
     have K4:=kl.typed MC _ _ _ _ Tv (by decide) (by decide)
     have hka:=kl.typed (kl.trans Qr MC) _ _ _ _ NP (by decide) (by decide)
     have cd:wr.cell? ⟨w1.heap.size+1,m,none⟩=some (.int .i64 (1-(m:Int))):=by
      rw[World.cell?_of_block hkd]
      rcases Ug with rfl|rfl|rfl
      ·simp[World.cell?,Tu]
      ·simp[World.cell?,Tu]
      ·omega
     have ct0:wr.cell? ⟨w1.heap.size,0,none⟩=some (.int .i64 (aV l k).bx.eM):=by rw[World.cell?_of_block K4];simp[World.cell?,Tv]
     have ct1:wr.cell? ⟨w1.heap.size,1,none⟩=some (.int .i64 (aV l k).bx.eI):=by rw[World.cell?_of_block K4];simp[World.cell?,Tv]
     have ca:wr.cell? ⟨Ba,0,none⟩=some (.slice (some ⟨b,o,none⟩) l.length cp):=by rw[World.cell?_of_block hka];simp[World.cell?,NP]
     have hPw:pq wr (.slice (some ⟨b,o,none⟩) l.length cp) l:=kl.pl (kl.trans Qr MC) hP
     have hba:Ba<wr.heap.size:=by
      have h1:=(Array.getElem?_eq_some_iff.1 NP).1
      have h2:=kl.size (kl.trans Qr MC)
      omega
     have hdm:iJ (1-(m:Int)) 0 3=true:=jE (by omega)
     have MM:=sS (hA.pt dP)
     have PR:=fun w0=>Ef w0 (aV l k).bx (1-(m:Int)) hdm MM.1 MM.2
     have hPd:pq wr.drew (.slice (some ⟨b,o,none⟩) l.length cp) l:=hPw.below ⟨rfl,rfl,rfl,Nat.le_refl _,fun _ _=>rfl⟩
     have cad:wr.drew.cell? ⟨Ba,0,none⟩=some (.slice (some ⟨b,o,none⟩) l.length cp):=ca
     have ctd0:wr.drew.cell? ⟨w1.heap.size,0,none⟩=some (.int .i64 (aV l k).bx.eM):=ct0
     have ctd1:wr.drew.cell? ⟨w1.heap.size,1,none⟩=some (.int .i64 (aV l k).bx.eI):=ct1
     have hfw:=hA.Cu
     have QS:=hA.M1
     have Uh:=mixed
     gi_wp2
     gi_region_with_o (first|(refine⟨trivial,?_⟩;gi_at_call 149;refine(callsIn_wide.2 (PR _)).mono ?_;rintro e w3 ⟨rfl,A9⟩;have ca3:=(A9.cell (p:=⟨Ba,0,none⟩) hba).trans cad)|(refine⟨trivial,?_⟩;gi_at_call 265;refine(callsIn_wide.2 (xl _ l _ (hPd.below A9) (aY (aV l k).bx (1-(m:Int))) QS (by omega))).mono ?_;rintro e w4 ⟨rfl,hB4⟩))
     all_goals
      have NO:Below wr.heap.size wr w4:=(show Below wr.heap.size wr wr.drew from⟨rfl,rfl,rfl,Nat.le_refl _,fun _ _=>rfl⟩).trans (A9.trans (hB4.mono A9.size))
      have hJ4:J (lh l k++kN l k m) w4:=hJ _ _ _ none hJm (grown_of NO) (fun r h=>by cases h)
      have tW:=OK l dP (m:=m+1) (by omega)
      rw[mT,<-List.append_assoc]at tW
      have o3:=mT l k m
      have hw:wrap64 ((m:Int)+1)=((m+1:Nat):Int):=by unfold wrap64;omega
      by_cases zg:0<=eK l (aY (aV l k).bx (1-(m:Int)))
      ·have fI:((eK l (aY (aV l k).bx (1-(m:Int)))).toNat:Int)=eK l (aY (aV l k).bx (1-(m:Int))):=by omega
       rw[BW,if_pos zg]at tW o3
       obtain⟨fn,tmps,assign,body,hy,hR⟩:=hY _ (k,(eK l (aY (aV l k).bx (1-(m:Int)))).toNat,1-(m:Int)) w4 hJ4 (by
        have:=tW.length_le
        simp only[List.length_append,List.length_cons,List.length_nil]at this ⊢
        omega) ⟨dP,by
        have:eK l (aY (aV l k).bx (1-(m:Int)))<(l.length:Int):=Ls _ _
        show(eK l (aY (aV l k).bx (1-(m:Int)))).toNat<l.length
        omega,by show 0<=1-(m:Int);omega,by show 1-(m:Int)<=1;omega⟩
       simp only[ER,fI]at hy
       gi_wp2
       refine hR.mono ?_
       rintro e W3 (⟨rfl,hJ3,Oa⟩|⟨rfl,hJx3⟩)
       ·gi_wp2
        go_roundw
        case rel=>exact⟨m+1,by omega,by simp,by rw[o3,<-List.append_assoc];exact hJ3,kl.trans (kl.trans MC (kl.of NO)) Oa⟩
        case measure=>simp[intOf];omega
       ·gi_wp2
        refine bodyPost_ret (results_none rfl _ _ _) rfl ?_
        exact⟨⟨_,rfl⟩,.inr ⟨_,tW,hJx3⟩⟩
      ·rw[BW,if_neg zg,List.append_nil]at o3
       gi_wp2
       refine⟨fun _ h=>(by cases h),?_⟩
       gi_wp2
       go_roundw
       case rel=>exact⟨m+1,by omega,by simp,by rw[o3];exact hJ4,kl.trans MC (kl.of NO)⟩
       case measure=>simp[intOf];omega
    ·obtain rfl:m=2:=by omega
     have hfw:=hA.Cu
     gi_wp2
     go_roundw
     case rel=>exact⟨k+1,by omega,by simp,by rw[l6];exact hJm,kl.trans Qr MC⟩
     case measure=>simp[intOf];omega
  ·obtain rfl:k=l.length:=by omega
   gi_wp2
   go_end0
   exact⟨⟨_,rfl⟩,.inl ⟨_,rfl,Qq⟩⟩
end Go.Proofs.YtgoelphibofcmaaGreat.V

namespace Go.Proofs.YtgoelphibofcmaaGreat.V
open Go.RowKit Go.Shelf
attribute [local go_sem] Oper.semAt_some
theorem zD (n:Nat) (vS:Value) (w:World):CallsIn Fence.wide n Tryz.prog 244 #[.agg #[vS]] w fun e w'=>e=.returned (.func (.func 264) #[] #[.pointer (some ⟨w.heap.size,0,none⟩)])/\w'=w.alloc (.cells #[vS] 41):=by
 refine callsIn_of_wp Tryz.func244 rfl trivial ?_ rfl
 simp only[Tryz.ntmps244,List.size_toArray,List.length_cons,List.length_nil,Nat.reduceAdd,Nat.reduceSub,Array.replicate_succ,Array.replicate_zero,List.push_toArray,List.append_toArray,List.nil_append,List.cons_append]
 gi_wp2
 go_ret
 exact⟨rfl,rfl⟩
abbrev Na (l:List ae):Type:={x:Nat×Nat×Int // P4 l x}
theorem Jg (l:List ae) (hA:j8 l) (Ba n:Nat) (hn:1<=n) (vS:Value) (K:World->World->Prop) (kl:HH K vS l) (w:World) (NP:w.heap[Ba]? =some (.cells #[vS] 41 (0,0))) (hP:pq w vS l):
  SeqStopsK Fence.wide n Tryz.prog 264 #[.pointer (some ⟨Ba,0,none⟩)] (fun x:Na l=>ER x.1) K (fun ys=>ys.map (·.1)=lh l l.length) (fun _=>True) (lh l l.length).length w:=fun q J Jx W hW hJ _ hY h0=>by
 refine(Rs l hA q Ba vS K kl (fun ys W=>∃zs:List (Na l),zs.map (·.1)=ys/\J zs W) (fun ys W=>∃zs:List (Na l),zs.map (·.1)=ys/\Jx zs W) n hn (fun pre x W1 Tx dP vp=>?_) W (fun s A B row ⟨zs,e,h⟩ hg hr=>⟨zs,e,hJ zs A B row h hg hr⟩) ((hW.block Ba (Array.getElem?_eq_some_iff.1 NP).1).trans NP) (hP.below hW) ⟨[],rfl,h0⟩).mono ?_
 ·obtain⟨zs,rfl,h1⟩:=Tx
  refine YieldAt.mono (hY zs ⟨x,vp⟩ W1 h1 (by simpa using dP)) ?_
  rintro e W' (⟨h2,h3,h4⟩|⟨h2,h3⟩)
  ·exact .inl ⟨h2,⟨zs++[⟨x,vp⟩],by simp,h3⟩,h4⟩
  ·exact .inr ⟨h2,⟨zs++[⟨x,vp⟩],by simp,h3⟩⟩
 ·rintro e W' ⟨h1,⟨ys,rfl,zs,h2,h3⟩|⟨pre,_,zs,h2,h3⟩⟩
  ·exact⟨h1,.inl ⟨zs,h2,h3⟩⟩
  ·exact⟨h1,.inr ⟨zs,trivial,h3⟩⟩
def yR (s:aw) (l:List ae) (x:Nat×Nat×Int):List PB:=if 0<gL s (aV l x.1).bB x.2.2 (aV l x.2.1).bB then[⟨x.1,x.2.1,gL s (aV l x.1).bB x.2.2 (aV l x.2.1).bB⟩]else[]
theorem H3 (s:aw) (l:List ae):cG s l=(lh l l.length).flatMap (yR s l):=by
 have h1:∀i d,mC s l i d=(BW l i d).flatMap (yR s l):=fun i d=>by
  unfold mC BW
  by_cases h:0<=eK l (aY (aV l i).bx d)
  ·rw[if_pos h]
   simp only[List.flatMap_cons,List.flatMap_nil,List.append_nil,yR]
   by_cases h2:0<gL s (aV l i).bB d (aV l (eK l (aY (aV l i).bx d)).toNat).bB
   ·rw[if_pos ⟨h,h2⟩,if_pos h2]
   ·rw[if_neg fun hc=>h2 hc.2,if_neg h2]
  ·rw[if_neg h,if_neg fun hc=>h hc.1];rfl
 unfold cG gE lh
 rw[List.flatMap_assoc]
 congr 1
 funext i
 unfold fS kN
 rw[List.flatMap_assoc]
 congr 1
 funext j
 exact h1 i _
end Go.Proofs.YtgoelphibofcmaaGreat.V

namespace Go.Proofs.YtgoelphibofcmaaGreat.V
open Go.RowKit Go.Shelf
attribute [local go_sem] Oper.semAt_some
section
variable {F:Fence} {n:Nat} {P:Program} {ops:Array Oper} {Q:Exit->Act->World->Prop} {rest:List Oper} {a:Act} {w:World} {o:Oper}
theorem EA (hg:o.guard=none) (m:Operand) (t:TypeId) (dG:o.op=Op.range t m) {v:Value} {w':World} (gr:(Instr.range t (a.eval m)).run P w=.ok v w') (h:wpListIn F n P ops Q rest (a.put o.dst v) w'):wpListIn F n P ops Q (o::rest) a w:=by
 refine wpListIn_plain hg fun K' R9=>?_
 unfold Oper.wpIn
 refine⟨by simp[Oper.about,dG],?_⟩
 rw[Oper.semAt_plain F _ _ (by rw[dG];intro c j6;cases j6)]
 simp[execOp,dG,gr,Result.andThen]
 exact R9 _ _ h
theorem Hm (hg:o.guard=none) (it:Operand) (dG:o.op=Op.next it false) (rr b clock:Nat) (seen:Array Nat) (es:Array MapEntry) (PE:a.eval it=.pointer (some ⟨rr,0,none⟩)) (hr:w.heap[rr]? =some (.mapIter (some b) clock seen clock)) (hb:w.heap[b]? =some (.map es clock)) (dH:FH es clock)
  (Qn:(leftOf es seen).toList=[]->wpListIn F n P ops Q rest (a.put o.dst (.tuple #[.bool false])) w)
  (Qu:∀e∈(leftOf es seen).toList,∀w',w'.heap[rr]? =some (.mapIter (some b) clock (seen.push e.born) clock)->w'.heap[b]? =some (.map es clock)->w.grownBy w' (some rr)->w'.heap.size=w.heap.size->(Instr.entry (.pointer (some ⟨rr,0,none⟩))).run P w'=.ok (.tuple #[e.key,e.val]) w'->wpListIn F n P ops Q rest (a.put o.dst (.tuple #[.bool true,e.key,e.val])) w'):
  wpListIn F n P ops Q (o::rest) a w:=by
 refine wpListIn_plain hg fun K' R9=>?_
 unfold Oper.wpIn
 refine⟨by simp[Oper.about,dG],?_⟩
 rw[Oper.semAt_plain F _ _ (by rw[dG];intro c j6;cases j6)]
 rcases run_next_at (P:=P) w o.type rr b clock clock seen es clock hr hb dH.1 (Nat.le_refl _)with⟨h0,gr⟩|⟨e,he,w1,mN,gr⟩
 ·simp[execOp,dG,PE,gr,Result.andThen]
  exact R9 _ _ (Qn (List.eq_nil_of_length_eq_zero (by simpa using h0)))
 ·have Lg:w1.heap[rr]? =some (.mapIter (some b) clock seen clock):=by rcases mN with rfl|rfl<;>exact hr
  have dQ:=MapKept.heap_set (o':=.mapIter (some b) clock (seen.push e.born) clock) Lg
  obtain⟨w2,sL⟩:∃w2,ChangeMaps.setBlock w1 rr (.mapIter (some b) clock (seen.push e.born) clock)=w2:=⟨_,rfl⟩
  have ho:∀k,k≠rr->w2.heap[k]? =w.heap[k]? :=fun k hk=>by
   rw[<-sL]
   refine(dQ.2 k hk).trans ?_
   rcases mN with rfl|rfl<;>rfl
  have hz:w2.heap.size=w.heap.size:=by
   rw[<-sL]
   rcases mN with rfl|rfl<;>simp[ChangeMaps.setBlock]
  have Ai:w2.heap[rr]? =some (.mapIter (some b) clock (seen.push e.born) clock):=by rw[<-sL];exact dQ.1
  have Bh:w2.os=w.os/\w2.tape=w.tape/\w2.output=w.output:=by
   rw[<-sL]
   rcases mN with rfl|rfl<;>exact⟨rfl,rfl,rfl⟩
  have TN:b≠rr:=fun e=>by subst e;rw[hr]at hb;cases hb
  have Bb:w2.heap[b]? =some (.map es clock):=(ho b TN).trans hb
  have Dm:=run_entry_at (P:=P) w2 rr b clock seen es clock e Ai Bb (mem_left he).1 dH.2
  rw[sL]at gr
  simp[execOp,dG,PE,gr,Result.andThen]
  exact R9 _ _ (Qu e he w2 Ai Bb ⟨Bh.1,Bh.2.1,Bh.2.2,by omega,fun k _ hk=>ho k fun e=>hk (by rw[e])⟩ hz Dm)
end
def rl (p:ai):Value:=.agg #[.int .i64 p.eM,.int .i64 p.eI]
def DO (es:Array MapEntry) (rr:Nat) (w:World):Nat:=match w.heap[rr]? with
 |some (.mapIter _ _ seen _)=>(leftOf es seen).size
 |_=>0
theorem yf {es:Array MapEntry} {rr b clock:Nat} {seen:Array Nat} {w:World} (h:w.heap[rr]? =some (.mapIter (some b) clock seen clock)):DO es rr w=(leftOf es seen).size:=by unfold DO;rw[h]
theorem GD {es:Array MapEntry} {clock:Nat} {seen:Array Nat} {e:MapEntry} (hs:FH es clock) (he:e∈(leftOf es seen).toList):((e.key::(leftOf es (seen.push e.born)).toList.map (·.key)).Perm ((leftOf es seen).toList.map (·.key)))/\(leftOf es (seen.push e.born)).size+1=(leftOf es seen).size:=by
 obtain⟨i,hi,Gi⟩:=List.getElem_of_mem he
 have h2:=DP hs (i:=i) (e:=e) (seen:=seen) (by rw[List.getElem?_eq_getElem hi,Gi])
 have hp:=vV (l:=(leftOf es seen).toList) (i:=i) (x:=e) (by rw[List.getElem?_eq_getElem hi,Gi])
 rw[h2]
 refine⟨by simpa using hp.map fun e:MapEntry=>e.key,?_⟩
 have h3:=congrArg List.length h2
 have h4:=hp.length_eq
 simp only[Array.length_toList,List.length_cons]at h3 h4
 rw[<-h3]at h4;exact h4
theorem F1 {a b:List ai} (h:(a.map rl).Perm (b.map rl)):a.Perm b:=by
 have h2:=h.map (fun v:Value=>match v with| .agg ⟨[.int _ x,.int _ y]⟩=>(⟨x,y⟩:ai)|_=>⟨0,0⟩)
 simpa[List.map_map,Function.comp_def,rl]using h2
theorem I0 (q Bm b:Nat) (es:Array MapEntry) (clock:Nat) (dH:FH es clock) (ks:List ai) (hk:es.toList.map (·.key)=ks.map rl) (J Jx:List ai->World->Prop) (n:Nat) (hn:1<=n)
  (hY:∀pre x W,J pre W->pre.length<ks.length->YieldAt Fence.wide (n-1) Tryz.prog q #[rl x] W fun e W'=>
   (e=.returned (.bool true)/\J (pre++[x]) W'/\KeepsWalks W W')∨(e=.returned (.bool false)/\Jx (pre++[x]) W'))
  (W:World) (hJ:AbidesFrom W.heap.size J) (hm:W.cell? ⟨Bm,0,none⟩=some (.map (some b))) (hb:W.heap[b]? =some (.map es clock)) (h0:J [] W):
  CallsIn Fence.wide n Tryz.prog 176 #[.func (.yield q) #[] #[],.pointer (some ⟨Bm,0,none⟩)] W fun e W'=>(∃v,e=.returned v)/\
   ((∃ss:List ai,ss.Perm ks/\J ss W')∨(∃pre,Jx pre W')):=by
 refine callsIn_of_wp Tryz.func176 rfl trivial ?_ rfl
 simp only[Tryz.ntmps176,List.size_toArray,List.length_cons,List.length_nil,Nat.reduceAdd,Nat.reduceSub,Array.replicate_succ,Array.replicate_zero,List.push_toArray,List.append_toArray,List.nil_append,List.cons_append]
 have hrg:=fun(wx:World) (h:wx.heap[b]? =some (.map es clock))=>run_range_map (P:=Tryz.prog) wx 108 _ _ b es clock Tryz.underlying108 h
 gi_wp2_with (first
  |(refine EA rfl _ _ rfl (hrg _ hb) ?_)
  |gi_in)
 have nH:b<W.heap.size:=(Array.getElem?_eq_some_iff.1 hb).1
 have Tx:J [] (W.alloc (.mapIter (some b) clock #[] clock)):=hJ _ _ _ none h0 (grown_of ((Below.refl _ W).alloc (Nat.le_refl _) _)) (fun r h=>by cases h)
 have Lg:(W.alloc (.mapIter (some b) clock #[] clock)).heap[W.heap.size]? =some (.mapIter (some b) clock #[] clock):=World.alloc_heap_new _ _
 have Hr:(W.alloc (.mapIter (some b) clock #[] clock)).heap[b]? =some (.map es clock):=(Below.heap_alloc _ _ _ nH).trans hb
 go_frame
 gi_loopw [3] (fun _ wr=>∃(seen:Array Nat) (ss:List ai),wr.heap[W.heap.size]? =some (.mapIter (some b) clock seen clock)/\wr.heap[b]? =some (.map es clock)/\(ss.map rl++(leftOf es seen).toList.map (·.key)).Perm (ks.map rl)/\J ss wr)
  (fun _ wr=>DO es W.heap.size wr)
 case atStart=>
  exact⟨#[],[],Lg,Hr,by rw[<-hk,show(leftOf es #[]).toList=es.toList by simp[leftOf]];exact List.Perm.refl _,Tx⟩
 case round=>
  obtain⟨seen,ss,hr,TN,hp,Qq⟩:=hrel
  gi_wp2_with (first
   |(refine Hm rfl _ rfl W.heap.size b clock seen es rfl hr TN dH ?_ ?_)
   |gi_in)
  ·intro PH
   gi_wp2
   go_end0
   rw[PH]at hp
   exact⟨⟨_,rfl⟩,.inl ⟨ss,F1 (by simpa using hp),Qq⟩⟩
  ·intro e he0 w2 Ai Bb N2 ki Dm
   have he:e∈(leftOf es seen).toList:=by simpa using he0
   obtain⟨Bj,dP⟩:=GD dH he
   obtain⟨x,hx⟩:∃x,e.key=rl x:=by
    have h1:e.key∈es.toList.map (·.key):=List.mem_map_of_mem (mem_left he).1
    rw[hk]at h1
    obtain⟨x,_,hx⟩:=List.mem_map.1 h1
    exact⟨x,hx.symm⟩
   have Ty:J ss w2:=hJ ss wr w2 (some W.heap.size) Qq N2 (fun r e=>by cases e;exact⟨Nat.le_refl _,_,hr,rfl⟩)
   have hlen:ss.length<ks.length:=by
    have h1:=hp.length_eq
    have h2:0<(leftOf es seen).toList.length:=List.length_pos_of_mem he
    simp only[List.length_append,List.length_map]at h1
    omega
   obtain⟨fn,tmps,assign,body,hy,hR⟩:=hY ss x (w2.alloc (.cells #[.int .i64 x.eM,.int .i64 x.eI] 50)) (hJ _ _ _ none Ty (grown_of ((Below.refl _ w2).alloc (Nat.le_refl _) _)) (fun r h=>by cases h)) hlen
   rw[hx]at Dm ⊢
   simp only[rl]at Dm hy ⊢
   gi_wp2
   refine hR.mono ?_
   rintro e3 W3 (⟨rfl,hJ3,Oa⟩|⟨rfl,hJx3⟩)
   ·gi_wp2
    have Ix:=KeepsWalks.alloc w2 (.cells #[.int .i64 x.eM,.int .i64 x.eI] 50)
    have hr3:=Oa.same _ _ (Ix.same _ _ Ai rfl) rfl
    have hb3:=Oa.same _ _ (Ix.same _ _ Bb rfl) rfl
    go_roundw
    case rel=>
     refine⟨_,ss++[x],hr3,hb3,?_,hJ3⟩
     rw[List.map_append,List.append_assoc]
     refine List.Perm.trans ?_ hp
     rw[hx]at Bj
     exact Bj.append_left _
    case measure=>rw[yf hr3,yf hr];omega
   ·gi_wp2
    refine bodyPost_ret (results_none rfl _ _ _) rfl ?_
    exact⟨⟨_,rfl⟩,.inr ⟨_,hJx3⟩⟩
theorem DI (Bm b:Nat) (es:Array MapEntry) (clock:Nat) (dH:FH es clock) (ks:List ai) (hk:es.toList.map (·.key)=ks.map rl) (n:Nat) (hn:1<=n) (w:World) (Tl:Bm<w.heap.size) (hm:w.cell? ⟨Bm,0,none⟩=some (.map (some b))) (hb:w.heap[b]? =some (.map es clock)):
  SeqStopsK Fence.wide n Tryz.prog 176 #[.pointer (some ⟨Bm,0,none⟩)] (fun x:ai=> #[rl x]) KeepsWalks (fun ss=>ss.Perm ks) (fun _=>True) ks.length w:=fun q J Jx W hW hJ _ hY h0=>by
 refine(I0 q Bm b es clock dH ks hk J Jx n hn hY W hJ ((hW.cell (p:=⟨Bm,0,none⟩) Tl).trans hm) ((hW.block b (Array.getElem?_eq_some_iff.1 hb).1).trans hb) h0).mono ?_
 rintro e W' ⟨h1,⟨ss,h2,h3⟩|⟨pre,h3⟩⟩
 ·exact⟨h1,.inl ⟨ss,h2,h3⟩⟩
 ·exact⟨h1,.inr ⟨pre,trivial,h3⟩⟩
def MZ (ps:List ai):List Value:=ps.flatMap fun p=>[.int .i64 p.eM,.int .i64 p.eI]
theorem Jt (ps:List ai) (p:ai):MZ (ps++[p])=MZ ps++[.int .i64 p.eM,.int .i64 p.eI]:=by simp[MZ]
theorem LX {ps:List ai} {i j:Nat} {p:ai} (h:ps[i]? =some p) (hj:j<2):(MZ ps)[i*2+j]? =([.int .i64 p.eM,.int .i64 p.eI]:List Value)[j]? :=by
 induction ps generalizing i with
 |nil=>simp at h
 |cons q r ih=>
  cases i with
  |zero=>
   simp at h;subst h
   match j,hj with
   |0,_=>rfl
   |1,_=>rfl
  |succ i=>
   simp only[List.getElem?_cons_succ]at h
   have:=ih h
   have e:(i+1)*2+j=i*2+j+2:=by omega
   rw[e]
   simpa[MZ]using this
theorem cell_two_new (W:World) (T:TypeId) (x y:Value):∀(j:Nat) (u:Value),[x,y][j]? =some u->(W.alloc (.cells #[x,y] T)).cell? ((⟨W.heap.size,0,none⟩:Addr).add j)=some u:=fun j u h=>by
 have hb:(W.alloc (.cells #[x,y] T)).heap[W.heap.size]? =some (.cells #[x,y] T (0,0)):=World.alloc_heap_new _ _
 have e:∀k,(W.alloc (.cells #[x,y] T)).cell? ⟨W.heap.size,k,none⟩=(#[x,y]:Array Value)[k]? :=fun k=>by
  unfold World.cell?
  rw[show(W.alloc (.cells #[x,y] T)).heap[(⟨W.heap.size,k,none⟩:Addr).block]? = _ from hb]
  rfl
 rw[show(⟨W.heap.size,0,none⟩:Addr).add j=⟨W.heap.size,j,none⟩ by simp[Addr.add];exact fun h=>h.symm,e]
 simpa using h
theorem OC:(Tryz.prog.info? 50).map (fun i=>(i.zero,i.size,i.bytes))=some (some (.agg #[.int .i64 0,.int .i64 0]),2,16):=by kernel_rfl
theorem Gc {β:Type} (B:Nat) (c:Array Value) (t:TypeId) (fr:Nat×Nat):Own (fun(_:β) W=>W.heap[B]? =some (.cells c t fr)):=fun _ X _ row h hg hr=>(hg.block B (Array.getElem?_eq_some_iff.1 h).1 (fun e=>by
 obtain⟨o,ho,hc⟩:=hr B e.symm
 rw[h]at ho;cases ho;cases hc)).trans h
theorem yN (Bm b:Nat) (es:Array MapEntry) (clock:Nat) (dH:FH es clock) (ks:List ai) (hk:es.toList.map (·.key)=ks.map rl) (hl:ks.length<=1000000) (w:World) (Tl:Bm<w.heap.size) (hm:w.cell? ⟨Bm,0,none⟩=some (.map (some b))) (hb:w.heap[b]? =some (.map es clock)):
  CallsIn Fence.wide 5 Tryz.prog 205 #[.slice none 0 0,.func (.func 176) #[] #[.pointer (some ⟨Bm,0,none⟩)]] w fun e W'=>∃(ss:List ai) (v:Value),ss.Perm ks/\e=.returned v/\W'.ownsRow w.heap.size 50 2 v ss.length (MZ ss)/\(v=.slice none 0 0↔ss=[])/\Below w.heap.size w W':=by
 obtain⟨i0,hi,E8,x7,ki⟩:=info_parts OC
 refine callsIn_of_wp_marks Tryz.func205 rfl trivial ?_ rfl
 simp only[Tryz.ntmps205,List.size_toArray,List.length_cons,List.length_nil,Nat.reduceAdd,Nat.reduceSub,Array.replicate_succ,Array.replicate_zero,List.push_toArray,List.append_toArray,List.nil_append,List.cons_append]
 gi_wp2
 have bO:=Boxed.new w 100 (.slice none 0 0)
 have wQ:Below w.heap.size w (w.alloc (.cells #[.slice none 0 0] 100)):=(Below.refl _ w).alloc (Nat.le_refl _) _
 have fb:(w.alloc (.cells #[.slice none 0 0] 100)).heap.size=w.heap.size+1:=by simp
 obtain⟨W0,Qx⟩:∃W0,w.alloc (.cells #[.slice none 0 0] 100)=W0:=⟨_,rfl⟩
 rw[Qx]at bO wQ fb ⊢
 clear Qx
 have Ug:W0.cell? ⟨Bm,0,none⟩=some (.map (some b)):=(wQ.cell (p:=⟨Bm,0,none⟩) Tl).trans hm
 have Di:=(wQ.block b (Array.getElem?_eq_some_iff.1 hb).1).trans hb
 refine wpIn_rangeFunc_ownH (n:=5) rfl (by omega) (gf:=176) (lb:= #[.pointer (some ⟨Bm,0,none⟩)]) rfl trivial (enters_of Tryz.func176 (by kernel_rfl) rfl)
  (DI Bm b es clock dH ks hk (5-1) (by omega) W0 (by omega) Ug Di) walksK_t (walksK_b (w:=W0)) (Below.refl _ _) (fun _=>rfl)
  (fun pre W=>(∃v,Boxed W w.heap.size 100 v/\W.ownsRow w.heap.size 50 2 v pre.length (MZ pre)/\(v=.slice none 0 0↔pre=[]))/\Below w.heap.size w W)
  (fun _ _ _=>False)
  (OwnFrom.and (Own.from (holdsRow_own w.heap.size w.heap.size 100 50 2 (fun pre=>pre.length) (fun pre=>MZ pre) (fun pre v=>v=.slice none 0 0↔pre=[])) _) (ownFrom_below (Nat.le_refl _) (by omega)))
  (fun _ _ _ _ _ hs _ _=>hs)
  ⟨⟨_,bO,World.ownsRow_nil _ _ _ _,by simp⟩,wQ⟩
  (fun x a' W=>∃Bx,w.heap.size<Bx/\W.heap[Bx]? =some (.cells #[.int .i64 x.eM,.int .i64 x.eI] 50 (0,0))/\a'={tmps:= #[.slice none 0 0,.func (.func 176) #[] #[.pointer (some ⟨Bm,0,none⟩)],.pointer (some ⟨w.heap.size,0,none⟩),undef,.slice none 0 0,.pointer (some ⟨Bx,0,none⟩),.func (.func 176) #[] #[.pointer (some ⟨Bm,0,none⟩)],.agg #[.int .i64 x.eM,.int .i64 x.eI],undef,undef,undef,undef,undef],defers:=[]})
  (fun x a' _ X Y row hs hg hr=>by obtain⟨Bx,h1,h2,h3⟩:=hs;exact⟨Bx,h1,Gc Bx _ _ _ () X Y row h2 hg (fun r e=>(hr r e).2),h3⟩)
  ?assign ?body ?done ?stop
 case assign=>
  rintro q pre x W K ⟨⟨v,hv,e9,hnil⟩,hB⟩ hK
  simp only[rl]
  gi_wp2
  exact hK _ _ ((KeepsOthers.alloc _ _).from _) (KeepsWalks.alloc _ _) ⟨⟨v,hv.alloc _,e9.alloc _,hnil⟩,hB.alloc hB.size _⟩ ⟨W.heap.size,hv.lt,World.alloc_heap_new _ _,rfl⟩
 case body=>
  rintro q pre x a' W hq hqr ⟨⟨v,hv,e9,hnil⟩,hB⟩ ⟨Bx,hBx,bX,rfl⟩ dP
  have hc:=hv.cell
  have Tb:W.cell? ⟨Bx,0,none⟩=some (.int .i64 x.eM):=by simp[World.cell?,bX]
  have Tc:W.cell? ⟨Bx,1,none⟩=some (.int .i64 x.eI):=by simp[World.cell?,bX]
  have Um:=hB.size
  gi_wp2_with (gi_at_builtin;refine wpListIn_append_own _ rfl _ _ 100 rfl w.heap.size 50 i0 (.agg #[.int .i64 0,.int .i64 0]) 2 16 (by kernel_rfl) hi E8 x7 ki rfl (by decide) _ _ _ rfl (e9.alloc _) ⟨W.heap.size,0,none⟩ 1 1 [.int .i64 x.eM,.int .i64 x.eI] rfl rfl (cell_two_new _ _ _ _) (by simp[Value.oneCell']) (by unfold maxLen;omega) (by omega) (by simp;omega) ?_;intro v' w4 Bi xR _;obtain⟨g',Td,rfl⟩:=ownsRow_succ Bi;obtain⟨vw,Lm,Ai,sJ,Bb⟩:=hv.appended (by decide) e9 Um (by omega) Bi xR;have pE:=vw.cell;have TZ:=vw.frozen)
  exact⟨sJ.from _,⟨sJ.size,fun k o hk hw=>sJ.same k o hk (Obj.not_cells_of_walk hw)⟩,⟨⟨_,Lm,by rw[Jt,List.length_append];exact Ai,by simp⟩,hB.trans Bb⟩⟩
 case done=>
  rintro D ys W hD CD ⟨⟨v,hv,e9,hnil⟩,hB⟩ hK
  have hc:=hv.cell
  gi_wp2
  refine⟨by simp,.inl ⟨_,_,rfl,run_takeDeferred hK,?_⟩⟩
  exact⟨_,results_tmp rfl _ _ _,ys,v,CD,rfl,ownsRow_putObj e9 _ hK rfl,hnil,hB.trans (belowK_b (w:=w) (Nat.le_refl _) W D _ _ (by omega) hK rfl rfl)⟩
 case stop=>
  rintro D c pre W _ _ h _
  exact h.elim
end Go.Proofs.YtgoelphibofcmaaGreat.V

namespace Go.Proofs.YtgoelphibofcmaaGreat.V
open Go.RowKit Go.Shelf Go.Lib Go.Sort
instance:Inhabited ai:=⟨⟨0,0⟩⟩
variable {P:Program} {w:World} {D:Nat->Prop} {ι:Names}
theorem we {vs:Array Value} (h:fe P w D ι [] vs):vs= #[]:=Array.eq_empty_of_size_eq_zero h.1
theorem ku {a:AV} {r:List AV} {vs:Array Value} (h:fe P w D ι (a::r) vs):∃u us,vs=(u::us).toArray/\dd P w D ι a u/\fe P w D ι r us.toArray:=by
 obtain⟨h1,h2⟩:=h
 obtain⟨l⟩:=vs
 cases l with
 |nil=>simp at h1
 |cons u us=>
  obtain⟨u',hu,hr⟩:=h2 0 a rfl
  simp at hu;subst hu
  exact⟨u,us,rfl,hr,by simpa using h1,fun j b hj=>by
   obtain⟨v,hv,lu⟩:=h2 (j+1) b (by simpa using hj)
   exact⟨v,by simpa using hv,lu⟩⟩
def Mt:Prop:=∀(xz off cap:Nat) (d:Array ai) (w:World),HoldsK fD 2 w xz off d->xz<w.heap.size->d.size<4611686018427387904->
 Calls Tryz.prog 175 #[.slice (some ⟨xz,off,none⟩) d.size cap,.func (.func 130) #[] #[]] w fun e w'=>e=.returned (.tuple #[])/\∃d' n os,PermIn 0 d.size d d'/\SortedIn (ltOf pw) 0 d.size d'/\w'=sortWorldK fD 2 w xz off n d' os
def Mu:Prop:=∀(p:Option Addr) (cap:Nat) (fv:Value) (w:World),Calls Tryz.prog 175 #[.slice p 0 cap,fv] w fun e w'=>e=.returned (.tuple #[])/\w'=w
theorem KO (p:ai) (j:Nat) (a:AV) (h:(ab p)[j]? =some a) (P:Program) (w:World) (D:Nat->Prop) (ι:Names):dd P w D ι a (fD p)[j]! :=by
 match j,h with
 |0,h=>simp[ab]at h;subst h;exact .eO _ _ (.int _ _)
 |1,h=>simp[ab]at h;subst h;exact .eO _ _ (.int _ _)
 |j+2,h=>simp[ab]at h
theorem G3 (hC:Mt) (hN:Mu) (ps:List ai) (hlen:ps.length<=1048576) (σ:au) (id:Id) (hg:σ.get id=some ⟨true,2,ps.map ab⟩):
  Call Tryz.prog 175 [.own id 0 ps.length,.fn 130 []] σ fun r σ'=>σ'.next=σ.next/\(∀x,x≠id->σ'.get x=σ.get x)/\∃qs,σ'.get id=some ⟨true,2,qs.map ab⟩/\qs.length=ps.length/\(∀x,x∈qs↔x∈ps)/\∀i j:Nat,i<j->j<qs.length->km (jv qs j) (jv qs i)=false:=by
 refine fE fun hs D ι w vs S U A=>?_
 obtain⟨u1,us1,rfl,h1,h2⟩:=ku A
 obtain⟨u2,us2,h3,h4,h5⟩:=ku h2
 simp at h3;subst h3
 have:=we h5
 simp at this;subst this
 obtain⟨o,cap,B,rfl,hB,Dk,ho,sI,hmax,hk⟩:=iN h1
 obtain⟨UO,gf,rfl,_,hz,_,_⟩:=wg h4
 have hz':UO= #[]:=Array.eq_empty_of_size_eq_zero (by simpa using hz)
 subst hz'
 by_cases h0:ps=[]
 ·subst h0
  refine(hN _ _ _ w).mono ?_
  rintro e w' ⟨rfl,rfl⟩
  exact⟨.iF [],σ.get,σ.next,D,ι,_,rfl,⟨rfl,fun _ _=>rfl,[],hg,rfl,fun x=>Iff.rfl,fun i j _ hj=>by simp at hj⟩,Step.refl _ _ _ _,S,U,Nat.le_refl _,.iF [] #[] (fun _=>Go.undef) rfl (fun j hj=>by simp at hj) (fun j a h=>by simp at h)⟩
 have lf:0<ps.length:=List.length_pos_iff.2 h0
 obtain⟨B',dC,R,jT,lN⟩:=S.row id _ hg
 rw[hB]at dC;injection dC with dC;subst dC
 replace R:=R.row hk
 have fb:B.sz=2:=R.sz
 have CA:o=0:=by rcases ho with h|h<;>omega
 subst CA
 obtain⟨cur,T,hblk,dt,Af⟩:=R.cur
 have Bd:ps.length*2<=B.C:=by simpa using R.fits
 have hH:HoldsK fD 2 w B.b 0 ps.toArray:=by
  intro t ht
  rw[size_flatK]at ht
  have ht2:t<ps.length*2:=by simpa using ht
  have hi:t / 2<ps.length:=by omega
  have Cx:w.frozen? ⟨B.b,0+t,none⟩=false:=by
   simp only[World.frozen?,hblk];simp
  refine⟨?_,Cx⟩
  rw[get_flatK _ _ _ _ ht]
  have hd:(ps.toArray)[t / 2]! =ps[t / 2]:=by simp[getElem!_pos,hi]
  rw[hd]
  have hj:t % 2=0∨t % 2=1:=by omega
  have ht3:0+t=(t / 2)*2+t % 2:=by omega
  rw[ht3]
  rcases hj with hj|hj
  ·obtain⟨v,hv,hr⟩:=R.at_ (t / 2) 0 (ab ps[t / 2]) _ (by simp[hi]) rfl
   rw[dn hr]at hv
   rw[hj];exact hv
  ·obtain⟨v,hv,hr⟩:=R.at_ (t / 2) 1 (ab ps[t / 2]) _ (by simp[hi]) rfl
   rw[dn hr]at hv
   rw[hj];exact hv
 have nH:B.b<w.heap.size:=(Array.getElem?_eq_some_iff.1 hblk).1
 have QD:=hC B.b 0 cap ps.toArray w hH nH (by simp;omega)
 rw[show ps.toArray.size=ps.length from by simp]at QD
 refine QD.mono ?_
 rintro e w' ⟨rfl,d',m,os,⟨Kn,_,hperm⟩,hsort,rfl⟩
 have QI:d'.size=ps.length:=by rw[Kn];simp
 have SC:d'.toList.length=ps.length:=by simpa using QI
 have hP:d'.toList.Perm ps:=by
  have e1:d'.extract 0 ps.length=d':=by rw[<-QI];exact Array.extract_size
  have e2:ps.toArray.extract 0 ps.length=ps.toArray:=by
   have:ps.length=ps.toArray.size:=by simp
   rw[this];exact Array.extract_size
  rw[e1,e2]at hperm
  simpa using hperm
 have hF:∀t,t<ps.length*2->(flatK fD 2 d')[t]! =(fD d'[t / 2]!)[t % 2]! :=fun t ht=>get_flatK _ _ _ _ (by rw[QI];exact ht)
 have hFs:(flatK fD 2 d').size=ps.length*2:=by rw[size_flatK,QI]
 have hw:sortWorldK fD 2 w B.b 0 m d' os=Go.Sort.grow (Go.Sort.putRow (fun v:Value=>v) (Go.Sort.ahead w m) B.b 0 (flatK fD 2 d')) os:=rfl
 rw[hw]
 clear hw hH
 generalize flatK fD 2 d'=Fl at hF hFs ⊢
 have rE:=S.put (r':=⟨true,2,d'.toList.map ab⟩) (cur':=Go.Sort.putCells (fun v:Value=>v) 0 Fl cur) hg rfl hB hblk (by simp[Go.Sort.putCells]) rfl rfl (by simpa[QI]using Bd) (fun cs dt=>by
   obtain⟨x,_,rfl⟩:=List.mem_map.1 dt;rfl) (fun cs dt a ha=>by
   obtain⟨x,_,rfl⟩:=List.mem_map.1 dt
   simp[ab]at ha;rcases ha with rfl|rfl<;>rfl) (fun i j cs a hi hj=>by
   have xS:i<d'.toList.length:=by
    have:=(List.getElem?_eq_some_iff.1 hi).1
    simpa using this
   have N9:j<2:=by
    have:=List.mem_of_getElem? hi
    obtain⟨x,_,rfl⟩:=List.mem_map.1 this
    exact(List.getElem?_eq_some_iff.1 hj).1
   have TR:cs=ab d'[i]! :=by
    rw[List.getElem?_map,List.getElem?_eq_getElem xS]at hi
    simp at hi
    rw[<-hi,getElem!_pos d' i (by simpa using xS)]
   subst TR
   have Kq:i*2+j<ps.length*2:=by omega
   refine⟨(fD d'[i]!)[j]!,?_,KO _ _ _ hj _ _ _ _⟩
   have mK:i*2+j<cur.size:=by rw[dt];omega
   show(Go.Sort.putCells (fun v:Value=>v) 0 Fl cur)[i*2+j]? = _
   simp only[Go.Sort.putCells,Array.getElem?_mapIdx,Array.getElem?_eq_getElem mK,Option.map_some]
   rw[if_pos ⟨Nat.zero_le _,by rw[hFs];omega⟩,Nat.sub_zero,hF _ Kq,show(i*2+j) / 2=i from by omega,show(i*2+j) % 2=j from by omega])
 obtain⟨S1,Nc⟩:=rE
 have Lj:(Go.Sort.putRow (fun v:Value=>v) (Go.Sort.ahead w m) B.b 0 Fl).heap.size=w.heap.size:=by simp
 have MI:∀k,k<(w.setRow B.b (Go.Sort.putCells (fun v:Value=>v) 0 Fl cur)).heap.size->(Go.Sort.grow (Go.Sort.putRow (fun v:Value=>v) (Go.Sort.ahead w m) B.b 0 Fl) os).heap[k]? =(w.setRow B.b (Go.Sort.putCells (fun v:Value=>v) 0 Fl cur)).heap[k]? :=fun k hk=>by
  have IH:k<w.heap.size:=by simpa using hk
  rw[heap_grow_old _ _ (by rw[Lj];exact IH)]
  simp only[Go.Sort.putRow,Go.Sort.mapBlock,heap_ahead,Array.getElem?_modify]
  by_cases Ud:B.b=k
  ·subst Ud
   rw[setRow_heap w B.b cur _ T _ hblk,if_pos rfl,hblk];rfl
  ·rw[if_neg Ud,setRow_other w B.b k _ (fun h=>Ud h.symm)]
 have ki:(w.setRow B.b (Go.Sort.putCells (fun v:Value=>v) 0 Fl cur)).heap.size<=(Go.Sort.grow (Go.Sort.putRow (fun v:Value=>v) (Go.Sort.ahead w m) B.b 0 Fl) os).heap.size:=by
  rw[size_grow,Lj];simp
 have S2:=S1.stay (D':=D) (ι':=ι) MI ki (fun _ h=>h) (fun b hb=>Nat.lt_of_lt_of_le (S1.dead b hb) ki) (fun _ h=>.inl h) (fun _ _ h=>h)
 have Nd:=Nc.trans (Step.stay (D':=D) (ι':=ι) S1 MI ki (by simp[Go.Sort.grow,Go.Sort.putRow,Go.Sort.mapBlock,Go.Sort.ahead]) (by simp[Go.Sort.grow,Go.Sort.putRow,Go.Sort.mapBlock,Go.Sort.ahead]) (by simp[Go.Sort.grow,Go.Sort.putRow,Go.Sort.mapBlock,Go.Sort.ahead]) (fun _ h=>h) (fun _ h=>.inl h) (fun _ _ h=>h))
 refine⟨.iF [],bI σ.get id ⟨true,2,d'.toList.map ab⟩,σ.next,D,ι,_,rfl,⟨rfl,fun x hx=>by simp[bI,hx],d'.toList,by simp[bI],SC,fun x=>hP.mem_iff,fun i j Dt hj=>?_⟩,Nd,S2,U,Nat.le_refl _,.iF [] #[] (fun _=>Go.undef) rfl (fun j hj=>by simp at hj) (fun j a h=>by simp at h)⟩
 have h:=hsort i j (Nat.zero_le _) Dt (by omega)
 rw[ltOf,mE]at h
 have e1:d'[j]! =jv d'.toList j:=by rw[jI hj,getElem!_pos d' j (by simpa using hj)];rfl
 have hi:i<d'.toList.length:=by omega
 have e2:d'[i]! =jv d'.toList i:=by rw[jI hi,getElem!_pos d' i (by simpa using hi)];rfl
 rw[<-e1,<-e2];exact h
end Go.Proofs.YtgoelphibofcmaaGreat.V

namespace Go.Proofs
open Go.Shelf
def Tryz.Ee:Go.Shelf.Ren:=⟨fun|6=>175|15=>207|14=>206|28=>233|29=>234|20=>225|21=>226|22=>227|23=>228|24=>229|25=>230|26=>231|27=>232|46=>247|47=>248|48=>249|49=>250|50=>251|57=>267|n=>n,fun|22=>100|24=>50|25=>168|3=>3|39=>216|0=>0|53=>268|55=>270|4=>4|46=>262|45=>261|50=>177|5=>5|9=>9|66=>287|70=>291|76=>312|77=>313|n=>n,fun|n=>n⟩
theorem Tryz.JF:Go.Proofs.SlLaysF0.n6 Tryz.prog Tryz.Ee:={
 mixed:=by kernel_rfl
 f6:=⟨Tryz.f175.name,by decide,Tryz.func175.trans (congrArg some (by kernel_rfl))⟩
 f14:=⟨Tryz.f206.name,by decide,Tryz.func206.trans (congrArg some (by kernel_rfl))⟩
 f15:=Tryz.func207.trans (congrArg some (by kernel_rfl))
 f20:=⟨Tryz.f225.name,by decide,Tryz.func225.trans (congrArg some (by kernel_rfl))⟩
 f21:=⟨Tryz.f226.name,by decide,Tryz.func226.trans (congrArg some (by kernel_rfl))⟩
 f22:=⟨Tryz.f227.name,by decide,Tryz.func227.trans (congrArg some (by kernel_rfl))⟩
 f23:=⟨Tryz.f228.name,by decide,Tryz.func228.trans (congrArg some (by kernel_rfl))⟩
 f24:=⟨Tryz.f229.name,by decide,Tryz.func229.trans (congrArg some (by kernel_rfl))⟩
 f25:=⟨Tryz.f230.name,by decide,Tryz.func230.trans (congrArg some (by kernel_rfl))⟩
 f26:=⟨Tryz.f231.name,by decide,Tryz.func231.trans (congrArg some (by kernel_rfl))⟩
 f27:=⟨Tryz.f232.name,by decide,Tryz.func232.trans (congrArg some (by kernel_rfl))⟩
 f28:=Tryz.func233.trans (congrArg some (by kernel_rfl))
 f29:=Tryz.func234.trans (congrArg some (by kernel_rfl))
 f46:=⟨Tryz.f247.name,by decide,Tryz.func247.trans (congrArg some (by kernel_rfl))⟩
 f47:=Tryz.func248.trans (congrArg some (by kernel_rfl))
 f48:=Tryz.func249.trans (congrArg some (by kernel_rfl))
 f49:=⟨Tryz.f250.name,by decide,Tryz.func250.trans (congrArg some (by kernel_rfl))⟩
 f50:=⟨Tryz.f251.name,by decide,Tryz.func251.trans (congrArg some (by kernel_rfl))⟩
 f57:=⟨Tryz.f267.name,by decide,Tryz.func267.trans (congrArg some (by kernel_rfl))⟩
 t0:=Tryz.underlying0
 a0:=Tryz.isAgg0
 z0:=Tryz.sizeOf0
 v0:=Tryz.zeroValue0
 t3:=Tryz.underlying3
 a3:=Tryz.isAgg3
 z3:=Tryz.sizeOf3
 v3:=Tryz.zeroValue3
 t4:=Tryz.underlying4
 a4:=Tryz.isAgg4
 z4:=Tryz.sizeOf4
 v4:=Tryz.zeroValue4
 t5:=Tryz.underlying5
 a5:=Tryz.isAgg5
 z5:=Tryz.sizeOf5
 v5:=Tryz.zeroValue5
 t9:=Tryz.underlying9
 a9:=Tryz.isAgg9
 z9:=Tryz.sizeOf9
 v9:=Tryz.zeroValue9
 t22:=Tryz.underlying100
 a22:=Tryz.isAgg100
 z22:=Tryz.sizeOf100
 v22:=Tryz.zeroValue100
 t25:=Tryz.underlying168
 a25:=Tryz.isAgg168
 z25:=Tryz.sizeOf168
 v25:=Tryz.zeroValue168
 t39:=Tryz.underlying216
 a39:=Tryz.isAgg216
 z39:=Tryz.sizeOf216
 v39:=Tryz.zeroValue216
 t45:=Tryz.underlying261
 a45:=Tryz.isAgg261
 z45:=Tryz.sizeOf261
 v45:=Tryz.zeroValue261
 t46:=Tryz.underlying262
 a46:=Tryz.isAgg262
 z46:=Tryz.sizeOf262
 v46:=Tryz.zeroValue262
 t50:=Tryz.underlying177
 a50:=Tryz.isAgg177
 z50:=Tryz.sizeOf177
 v50:=Tryz.zeroValue177
 t53:=Tryz.underlying268
 a53:=Tryz.isAgg268
 z53:=Tryz.sizeOf268
 v53:=Tryz.zeroValue268
 t55:=Tryz.underlying270
 a55:=Tryz.isAgg270
 z55:=Tryz.sizeOf270
 v55:=Tryz.zeroValue270
 t66:=Tryz.underlying287
 a66:=Tryz.isAgg287
 z66:=Tryz.sizeOf287
 v66:=Tryz.zeroValue287
 t70:=Tryz.underlying291
 a70:=Tryz.isAgg291
 z70:=Tryz.sizeOf291
 v70:=Tryz.zeroValue291
 t76:=Tryz.underlying312
 a76:=Tryz.isAgg312
 z76:=Tryz.sizeOf312
 v76:=Tryz.zeroValue312
 t77:=Tryz.underlying313
 a77:=Tryz.isAgg313
 z77:=Tryz.sizeOf313
 v77:=Tryz.zeroValue313}
end Go.Proofs

namespace Go.Proofs.YtgoelphibofcmaaGreat.V
open Go.RowKit Go.Shelf Go.Lib Go.Sort
theorem AL (w:World) (a b:Int):Calls Tryz.prog 178 #[.int .i64 a,.int .i64 b] w fun e w'=>e=.returned (.int .i64 (rh a b))/\w=w':=by
 go_enter Tryz.func178,Tryz.ntmps178
 go_wp2_with go_in
 all_goals
  go_ret
  exact⟨Fq (by unfold rh;split<;>(try split)<;>omega),rfl⟩
theorem LQ (w:World) (a b:Int) (g:Nat) (ha:w.cell? ⟨g,0,none⟩=some (.int .i64 a)) (hb:w.cell? ⟨g,1,none⟩=some (.int .i64 b)):Calls Tryz.prog 177 #[.slice (some ⟨g,0,none⟩) 2 2] w fun e w'=>e=.returned (.int .i64 (LR a b))/\w=w':=by
 go_enter Tryz.func177,Tryz.ntmps177
 go_wp2_with fail
 go_loop [8] (fun i=>∃k:Nat,k<=2/\i=.int .i64 k/\Hid ((1<=k->a=0)/\(2<=k->b=0))) (fun i=>2-(intOf i).toNat)
 case atStart=>exact⟨0,by omega,rfl,Lib.hid ⟨fun h=>by omega,fun h=>by omega⟩⟩
 case round=>
  obtain⟨k,hk,rfl,hz⟩:=hrel
  have h3:k=0∨k=1∨k=2:=by omega
  rcases h3 with rfl|rfl|rfl
  ·go_wp2_with fail
   ·rename_i h
    go_ret
    exact⟨Fq (by unfold LR;simp_all),rfl⟩
   ·rename_i h
    go_round
    case rel=>exact⟨1,by omega,rfl,Lib.hid ⟨fun _=>by simpa using h,fun h=>by omega⟩⟩
    case measure=>simp[intOf]
  ·have h0:=hz.out.1 (by omega)
   replace h0:=Lib.hid h0
   go_wp2_with fail
   ·go_ret
    exact⟨Fq (by unfold LR;rw[if_pos h0.out]),rfl⟩
   ·rename_i h
    go_round
    case rel=>exact⟨2,by omega,rfl,Lib.hid ⟨fun _=>h0.out,fun _=>by simpa using h⟩⟩
    case measure=>simp[intOf]
  ·have h0:=Lib.hid (hz.out.1 (by omega))
   have h1:=Lib.hid (hz.out.2 (by omega))
   go_wp2_with fail
   go_ret
   exact⟨Fq (by unfold LR;rw[if_pos h0.out,h1.out]),rfl⟩
def Grown (w w':World):Prop:=∃(q:Nat) (os:Array Obj),w'=Go.Sort.grow (w.drewN q) os
theorem Grown.refl (w:World):Grown w w:=⟨0, #[],by rw[grow_empty];rfl⟩
theorem Grown.alloc {w w':World} (h:Grown w w') (o:Obj):Grown w (w'.alloc o):=by
 obtain⟨q,os,rfl⟩:=h
 exact⟨q,os++ #[o],by rw[alloc_eq_grow,grow_grow]⟩
theorem Grown.drew {w w':World} (h:Grown w w'):Grown w w'.drew:=by
 obtain⟨q,os,rfl⟩:=h
 exact⟨q+1,os,by rw[drew_grow];rfl⟩
theorem Grown.dN {w w':World} (h:Grown w w') (n:Nat):Grown w (w'.drewN n):=by
 obtain⟨q,os,rfl⟩:=h
 exact⟨q+n,os,by
  show Go.Sort.grow ((w.drewN q).drewN n) os=Go.Sort.grow (w.drewN (q+n)) os
  simp[World.drewN,Nat.add_assoc]⟩
theorem tP (w:World) (a b:ai):Calls Tryz.prog 130 #[.agg #[.int .i64 a.eM,.int .i64 a.eI],.agg #[.int .i64 b.eM,.int .i64 b.eI]] w fun e w'=>e=.returned (.int .i64 (pw a b))/\Grown w w':=by
 go_enter Tryz.func130,Tryz.ntmps130
 go_wp2_with fail
 go_region_held3 (fun w'=>w'.cell? ⟨w.heap.size,0,none⟩=some (.int .i64 a.eM)/\w'.cell? ⟨w.heap.size,1,none⟩=some (.int .i64 a.eI)/\
   w'.cell? ⟨w.heap.size+1,0,none⟩=some (.int .i64 b.eM)/\w'.cell? ⟨w.heap.size+1,1,none⟩=some (.int .i64 b.eI))
  (first|go_keep)
  (first|(go_at_call 178;refine(AL _ _ _).mono ?_;rintro e w' ⟨rfl,rfl⟩)|(go_at_call 177;refine(LQ _ (rh a.eI b.eI) (rh a.eM b.eM) _ (by simp[go_sem]) (by simp[go_sem])).mono ?_;rintro e w' ⟨rfl,rfl⟩))
 go_wp2_with fail
 go_ret
 refine⟨rfl,?_⟩
 repeat(first|(with_reducible exact Grown.refl _)|(refine Grown.alloc ?_ _)|(refine Grown.drew ?_)|(refine Grown.dN ?_ _))
theorem UN:SWO (ltOf pw) where
 irrefl x:=by rw[ltOf,mE];exact mO
 trans x y z h1 h2:=by rw[ltOf,mE]at *;exact ij h1 h2
 ntrans x y z h1 h2:=by rw[ltOf,mE]at *;rw[o8]at *;omega
theorem Rz:Mt:=fun xz off cap d w hH hblk fb=>by
 have eg:∀args w,(callFunc 130 args).run Tryz.prog w=.ok (.enter 130 args) w:=enters_of Tryz.func130 (by kernel_rfl) rfl
 have h:=AnyQ.slices_SortFunc Tryz.JF 2 Tryz.isAgg50 Tryz.sizeOf50 fD (fun _=>rfl) (fun x v hv=>by simp[fD]at hv;rcases hv with rfl|rfl<;>rfl) pw UN 130 #[] xz off cap d w eg (fun m os dk _ x y=>(tP _ x y).mono fun _ _ ⟨he,q,os',hw⟩=>⟨he,q,os',hw⟩) hH hblk fb
 exact h
theorem M3:Mu:=fun p cap fv w=>AnyF.slices_SortFunc_none Tryz.JF p cap fv w
end Go.Proofs.YtgoelphibofcmaaGreat.V

namespace Go.Proofs.YtgoelphibofcmaaGreat.V
open Go.RowKit
attribute [local irreducible] eb wpOps gj Call
attribute [local go_sem] aJ fM eP fZ fY cL upd cu K.av cN AV.cells AV.cell rowOf rowsOf part ld rowAt bI bW dD ee gT bL dc ev fU eY dr ej da cZ dO dR bR aX cR bQ cV cU eh ek ei cQ bV db ef bP aP cX cE gS bw cJ bU aW dx bj dE AV.undef bD bF dV ec dI dS cF eu eB cD ep eo cW cY List.getD_cons_zero List.getD_cons_succ List.getD_nil List.all_cons List.all_nil Bool.and_true Bool.true_and Bool.and_self Bool.not_true Bool.not_false Option.map_some Option.map_none Option.bind_some Option.bind_none List.length_cons List.length_nil List.take_succ_cons List.take_zero List.take_nil List.drop_succ_cons List.drop_zero List.drop_nil List.head?_cons List.map_cons List.map_nil List.getElem?_cons_zero List.getElem?_cons_succ List.cons_append List.nil_append List.append_nil List.length_map List.set_cons_zero List.set_cons_succ Nat.reduceMul eq_self Int.toNat_natCast Int.natCast_nonneg and_self true_and and_true decide_true decide_false Bool.false_eq_true Nat.zero_add Nat.add_zero List.contains_cons List.contains_nil Bool.or_false Bool.false_or beq_self_eq_true Nat.reduceBEq ne_eq not_true_eq_false not_false_eq_true Id.mk.injEq false_and and_false Nat.reduceLT Int.reduceLE Int.reduceLT Int.reduceToNat Int.reduceNeg Int.reduceAdd Nat.le_refl List.length_append beq_true beq_false Bool.not_eq_eq_eq_not or_false false_or dM aj aq aH bd bz ck aU bf aT aZ cP bH
structure nr (n:Nat) (px:Nat->Option Nat) (L:Nat->Nat):Prop where
 top:∀k,k<n->px k=none->L k=k
 up:∀k j,k<n->px k=some j->j<k/\L j=L k
theorem nr.root {n:Nat} {px:Nat->Option Nat} {L:Nat->Nat} (h:nr n px L) (hL:jx L) {k:Nat} (hk:k<n) (hr:L k=k):px k=none:=by
 rcases hp:px k with _|j
 ·rfl
 ·obtain⟨h1,h2⟩:=h.up k j hk hp
  have:=hL.le j
  omega
theorem nr.start (n:Nat):nr n (fun _=>none) id:=⟨fun _ _ _=>rfl,fun _ _ _ h=>by cases h⟩
theorem nr.join {n:Nat} {px:Nat->Option Nat} {L:Nat->Nat} (h:nr n px L) (hL:jx L) (b:PB) (dP:min (L b.a) (L b.b)<max (L b.a) (L b.b)):nr n (fun k=>if k=max (L b.a) (L b.b)then some (min (L b.a) (L b.b))else px k) (eL L b):=by
 have ha:=hL.idem b.a
 have hb:=hL.idem b.b
 have zh:L (min (L b.a) (L b.b))=min (L b.a) (L b.b):=by
  rcases Nat.le_total (L b.a) (L b.b)with h|h
  ·rw[Nat.min_eq_left h,ha]
  ·rw[Nat.min_eq_right h,hb]
 have QV:L (max (L b.a) (L b.b))=max (L b.a) (L b.b):=by
  rcases Nat.le_total (L b.a) (L b.b)with h|h
  ·rw[Nat.max_eq_right h,hb]
  ·rw[Nat.max_eq_left h,ha]
 unfold eL
 generalize min (L b.a) (L b.b)=lo at *
 generalize max (L b.a) (L b.b)=hi at *
 refine⟨fun k hk hp=>?_,fun k j hk hp=>?_⟩
 ·by_cases Kk:k=hi
  ·rw[if_pos Kk]at hp;cases hp
  ·rw[if_neg Kk]at hp
   have:=h.top k hk hp
   rw[if_neg (by omega)];exact this
 ·by_cases Kk:k=hi
  ·rw[if_pos Kk]at hp
   cases hp
   subst Kk
   exact⟨dP,by rw[if_neg (by omega),if_pos QV,zh]⟩
  ·rw[if_neg Kk]at hp
   obtain⟨h1,h2⟩:=h.up k j hk hp
   exact⟨h1,by rw[h2]⟩
theorem zp {L:Nat->Nat} {b:PB} (h:L b.a=L b.b):eL L b=L:=by
 funext k
 unfold eL
 rw[h,Nat.max_self,Nat.min_self]
 split
 ·rename_i h;exact h.symm
 ·rfl
def sF (G:Nat->Id) (px:Nat->Option Nat) (k:Nat):List AV:=[match px k with|none=>.gI|some j=>.ptr (G j) 0 0,.int .i64 (k:Int)]
def tL (g:Rows) (G:Nat->Id) (n:Nat) (px:Nat->Option Nat):Prop:=∀k,k<n->g (G k)=some ⟨true,2,[sF G px k]⟩
theorem tL.frame {g g':Rows} {G:Nat->Id} {n:Nat} {px:Nat->Option Nat} (h:tL g G n px) (hf:∀k,k<n->g' (G k)=g (G k)):tL g' G n px:=fun k hk=>(hf k hk).trans (h k hk)
theorem lr {G:Nat->Id} {px:Nat->Option Nat} {k:Nat} (h:px k=none):sF G px k=[.gI,.int .i64 (k:Int)]:=by rw[sF,h]
theorem tp {G:Nat->Id} {px:Nat->Option Nat} {k j:Nat} (h:px k=some j):sF G px k=[.ptr (G j) 0 0,.int .i64 (k:Int)]:=by rw[sF,h]
theorem yZ (G:Nat->Id) (n:Nat) (px:Nat->Option Nat) (L:Nat->Nat) (h:nr n px L) (k:Nat) (hk:k<n) (σ:au) (hG:tL σ.get G n px):
  Call Tryz.prog 262 [.ptr (G k) 0 0] σ fun r σ'=>r=.ptr (G (L k)) 0 0/\σ'.get=σ.get/\σ.next<=σ'.next:=by
 refine eU eJ rfl fun hl=>?_
 clear hl
 (try((repeat(revert hN;revert N;apply Pn.out));refine wk @Nat.zero_add ?_;(repeat(refine Pn.mk ?_;intro N hN))))
 refine aO (fun m env st=>∃j:Nat,m=j/\j<n/\env 0=.ptr (G j) 0 0/\L j=L k/\st.get=σ.get/\σ.next<=st.next) k ⟨k,rfl,hk,sd @Nat.zero_add,rfl,by(try dsimp only),by(try dsimp only);omega⟩ ?_
 rintro m env_b st_b ⟨j,rfl,hj,b0,hLj,hg,hle⟩ eV
 clear eV
 have e9:=hG m hj
 rcases hp:px m with _|j
 ·rw[lr hp]at e9
  (try((repeat(revert hN;revert N;apply Pn.out));refine wk (tw @b0 (tw @hg @e9)) ?_;(repeat(refine Pn.mk ?_;intro N hN))))
  exact ft (.inl rfl) (vs:=[.ptr (G m) 0 0]) (sd @Nat.zero_add) ⟨by rw[<-hLj,h.top m hj hp];rfl,by first|trivial|rfl|exact hg,by(try dsimp only);omega⟩
 ·rw[tp hp]at e9
  obtain⟨h1,h2⟩:=h.up m j hj hp
  (try((repeat(revert hN;revert N;apply Pn.out));refine wk (tw @b0 (tw @hg @e9)) ?_;(repeat(refine Pn.mk ?_;intro N hN))))
  exact⟨j,h1,j,rfl,by omega,sd @Nat.zero_add,by omega,by first|trivial|rfl|exact hg,by(try dsimp only);omega⟩
end Go.Proofs.YtgoelphibofcmaaGreat.V

namespace Go.Proofs.YtgoelphibofcmaaGreat.V
open Go.RowKit
attribute [local irreducible] eb wpOps gj Call
attribute [local go_sem] aJ fM eP fZ fY cL upd cu K.av cN AV.cells AV.cell rowOf rowsOf part ld rowAt bI bW dD ee gT bL dc ev fU eY dr ej da cZ dO dR bR aX cR bQ cV cU eh ek ei cQ bV db ef bP aP cX cE gS bw cJ bU aW dx bj dE AV.undef bD bF dV ec dI dS cF eu eB cD ep eo cW cY List.getD_cons_zero List.getD_cons_succ List.getD_nil List.all_cons List.all_nil Bool.and_true Bool.true_and Bool.and_self Bool.not_true Bool.not_false Option.map_some Option.map_none Option.bind_some Option.bind_none List.length_cons List.length_nil List.take_succ_cons List.take_zero List.take_nil List.drop_succ_cons List.drop_zero List.drop_nil List.head?_cons List.map_cons List.map_nil List.getElem?_cons_zero List.getElem?_cons_succ List.cons_append List.nil_append List.append_nil List.length_map List.set_cons_zero List.set_cons_succ eq_self Int.toNat_natCast Int.natCast_nonneg and_self true_and and_true decide_true decide_false Bool.false_eq_true Nat.zero_add Nat.add_zero List.contains_cons List.contains_nil Bool.or_false Bool.false_or beq_self_eq_true ne_eq not_true_eq_false not_false_eq_true Id.mk.injEq false_and and_false Nat.le_refl List.length_append beq_true beq_false Bool.not_eq_eq_eq_not or_false false_or dM aj aq aH bd bz ck aU bf aT aZ cP bH
abbrev mI:MK:=⟨false,[.tI]⟩
def sM (l:List (Nat×Nat)):List (List AV):=l.map fun p=>[.int .i64 (p.1:Int),.int .i64 (p.2:Int)]
theorem Bw (r:Nat):∀(l:List (Nat×Nat)) (i:Nat),((∀p∈l,p.1≠r)->fQ mI [.int .i64 (r:Int)] (sM l) i=some none)/\(∀j v,l[j]? =some (r,v)->(∀x y,x<j->l[x]? =some y->y.1≠r)->fQ mI [.int .i64 (r:Int)] (sM l) i=some (some (i+j)))
 |[],i=>⟨fun _=>rfl,fun j v h=>by simp at h⟩
 |p::l,i=>by
  obtain⟨h1,h2⟩:=Bw r l (i+1)
  by_cases h:p.1=r
  ·refine⟨fun hp=>absurd h (hp p (by simp)),fun j v hj hf=>?_⟩
   have PF:j=0:=by
    rcases Nat.eq_zero_or_pos j with h0|h0
    ·exact h0
    ·exact absurd h (hf 0 p h0 (by simp))
   subst PF
   simp[sM,fQ,eY,fU,MK.ks,h]
  ·have hd:¬((r:Int)=(p.1:Int)):=by omega
   have tU:¬r=p.1:=fun he=>h he.symm
   have step:fQ mI [.int .i64 (r:Int)] (sM (p::l)) i=fQ mI [.int .i64 (r:Int)] (sM l) (i+1):=by
    unfold sM
    simp[fQ,MK.ks,eY,fU,hd,tU,h]
   rw[step]
   refine⟨fun hp=>h1 fun q hq=>hp q (by simp[hq]),fun j v hj hf=>?_⟩
   cases j with
   |zero=>simp at hj;rw[hj]at h;exact absurd rfl h
   |succ j=>
    rw[h2 j v (by simpa using hj) fun x y hx hy=>hf (x+1) y (by omega) (by simpa using hy)]
    congr 2;omega
theorem x9 {r:Nat} {l:List (Nat×Nat)}:((∀p∈l,p.1≠r)->fJ mI (.int .i64 (r:Int)) (sM l)=some none)/\(∀j v,l[j]? =some (r,v)->(∀x y,x<j->l[x]? =some y->y.1≠r)->fJ mI (.int .i64 (r:Int)) (sM l)=some (some j)):=by
 have e:fJ mI (.int .i64 (r:Int)) (sM l)=fQ mI [.int .i64 (r:Int)] (sM l) 0:=by
  unfold fJ
  rw[if_pos ⟨rfl,rfl,rfl⟩];rfl
 obtain⟨h1,h2⟩:=Bw r l 0
 rw[e]
 exact⟨h1,fun j v hj hf=>by rw[h2 j v hj hf,Nat.zero_add]⟩
def kK (k:Nat) (L:Nat->Nat):List (List AV):=sM (leads k L).zipIdx
theorem DN {k:Nat} {L:Nat->Nat} (h:L k=k):kK (k+1) L=kK k L++[[.int .i64 (k:Int),.int .i64 ((leads k L).length:Int)]]:=by
 unfold kK
 rw[gH,if_pos h,List.zipIdx_append]
 simp[sM]
theorem DM {k:Nat} {L:Nat->Nat} (h:L k≠k):kK (k+1) L=kK k L:=by
 unfold kK
 rw[gH,if_neg h,List.append_nil]
theorem GB {k:Nat} {L:Nat->Nat} (h:L k=k):fJ mI (.int .i64 (k:Int)) (kK k L)=some none:=by
 refine x9.1 fun p hp=>?_
 have:=List.fst_mem_of_mem_zipIdx hp
 have:=(ye.1 this).1
 omega
theorem yd {n:Nat} {L:Nat->Nat} {x y:Nat} (hx:x<(leads n L).length) (hy:y<(leads n L).length) (h:(leads n L)[x]=(leads n L)[y]):x=y:=by
 have hp:=List.pairwise_iff_getElem.1 (tz n L)
 rcases Nat.lt_trichotomy x y with dP|he|dP
 ·exact absurd h (hp x y hx hy dP)
 ·exact he
 ·exact absurd h.symm (hp y x hy hx dP)
theorem yc {k:Nat} {L:Nat->Nat} (hL:jx L) (h:L k≠k):fJ mI (.int .i64 (L k:Int)) (kK k L)=some (some (bJ L k))/\(kK k L)[bJ L k]? =some [.int .i64 (L k:Int),.int .i64 (bJ L k:Int)]/\bJ L k<(leads k L).length:=by
 have dP:L k<k:=Nat.lt_of_le_of_ne (hL.le k) h
 have hn:bJ L (L k)=bJ L k:=by rw[bJ,hL.idem,bJ]
 have hg:=o5 hL dP
 rw[hn,hL.idem]at hg
 have hl:bJ L k<(leads k L).length:=(List.getElem?_eq_some_iff.1 hg).1
 have hz:(leads k L).zipIdx[bJ L k]? =some (L k,bJ L k):=by simp[List.getElem?_zipIdx,hg]
 refine⟨x9.2 _ _ hz fun x y hx hy=>?_,by unfold kK sM;rw[List.getElem?_map,hz];rfl,hl⟩
 intro he
 rw[List.getElem?_zipIdx]at hy
 have PV:x<(leads k L).length:=by omega
 rw[List.getElem?_eq_getElem PV]at hy
 simp at hy
 rw[<-hy]at he
 simp at he
 have e2:(leads k L)[bJ L k]=L k:=(List.getElem?_eq_some_iff.1 hg).2
 have:=yd PV hl (he.trans e2.symm)
 omega
def jC (k:Nat) (L:Nat->Nat):List (List Nat):=(leads k L).map (members k L)
theorem qm (k:Nat) (L:Nat->Nat):(jC k L).length=(leads k L).length:=by simp[jC]
theorem Dc {k:Nat} {L:Nat->Nat} (hL:jx L) (h:L k=k):jC (k+1) L=jC k L++[[k]]:=by
 unfold jC
 rw[gH,if_pos h,List.map_append,List.map_cons,List.map_nil,jk,if_pos h,mQ hL (Nat.le_refl k),List.nil_append]
 congr 1
 refine List.map_congr_left fun r hr=>?_
 have:=(ye.1 hr).1
 rw[jk,if_neg (by omega),List.append_nil]
theorem Dd {k:Nat} {L:Nat->Nat} (hL:jx L) (h:L k≠k):(jC k L)[bJ L k]? =some (members k L (L k))/\jC (k+1) L=(jC k L).set (bJ L k) (members k L (L k)++[k]):=by
 obtain⟨_,_,hl⟩:=yc hL h
 have dP:L k<k:=Nat.lt_of_le_of_ne (hL.le k) h
 have hg:=o5 hL dP
 have hn:bJ L (L k)=bJ L k:=by rw[bJ,hL.idem,bJ]
 rw[hn,hL.idem]at hg
 refine⟨by unfold jC;rw[List.getElem?_map,hg];rfl,?_⟩
 unfold jC
 rw[gH,if_neg h,List.append_nil]
 refine List.ext_getElem? fun i=>?_
 rw[List.getElem?_set,List.getElem?_map,List.length_map]
 by_cases hi:bJ L k=i
 ·subst hi
  rw[if_pos rfl,if_pos hl,hg,Option.map_some,jk,if_pos rfl]
 ·rw[if_neg hi,List.getElem?_map]
  rcases hr:(leads k L)[i]? with _|r
  ·rfl
  ·rw[Option.map_some,Option.map_some,jk,if_neg,List.append_nil]
   rintro rfl
   obtain⟨nz,he⟩:=List.getElem?_eq_some_iff.1 hr
   have e2:(leads k L)[bJ L k]=L k:=(List.getElem?_eq_some_iff.1 hg).2
   exact hi (yd hl nz (e2.trans he.symm))
theorem BN (k:Nat) (L:Nat->Nat) (r:Nat):(members k L r).length<=k:=by
 have:=List.length_filter_le (fun x=>L x==r) (List.range k)
 simpa[members]using this
def FC (g:Rows) (o:Id) (L:List (List Nat)) (nx:Nat):Prop:=∃rows ids,g o=some ⟨true,1,rows⟩/\eE Pq g rows L ids/\ids.Nodup/\(∀i∈ids,i.site=240026008/\i.bm<nx)/\o.site=240025002/\o.bm<nx
theorem FC.frame {g g':Rows} {o:Id} {L:List (List Nat)} {nx uu:Nat} (h:FC g o L nx) (hn:nx<=uu) (hf:∀i:Id,(i.site=240026008∨i.site=240025002)->i.bm<nx->g' i=g i):FC g' o L uu:=by
 obtain⟨rows,ids,h1,h2,h3,h4,h5,h6⟩:=h
 exact⟨rows,ids,(hf o (.inr h5) h6).trans h1,h2.frame LH fun i hi=>hf i (.inl (h4 i hi).1) (h4 i hi).2,h3,fun i hi=>⟨(h4 i hi).1,by have:=(h4 i hi).2;omega⟩,h5,by omega⟩
theorem KU {g':Rows} {v v' uu j:Nat} (h1:g' ⟨240025002,v⟩=some ⟨true,1,[[.own ⟨240026008,v'⟩ 0 1]]⟩) (h2:g' ⟨240026008,v'⟩=some ⟨true,1,[eN j]⟩) (hv:v<uu) (nJ:v'<uu):FC g' ⟨240025002,v⟩ [[j]] uu:=
 ⟨_,[⟨240026008,v'⟩],h1,.one ⟨_,rfl,h2,rfl⟩,by simp,fun i hi=>by rw[List.mem_singleton.1 hi];exact⟨rfl,nJ⟩,rfl,hv⟩
theorem FC.new {g:Rows} {o:Id} {L:List (List Nat)} {nx:Nat} (h:FC g o L nx) (j:Nat):∃rows,g o=some ⟨true,1,rows⟩/\rows.length=L.length/\∀(g':Rows) (v v' uu:Nat),nx<=v'->v<uu->v'<uu->g' ⟨240025002,v⟩=some ⟨true,1,rows++[[.own ⟨240026008,v'⟩ 0 1]]⟩->g' ⟨240026008,v'⟩=some ⟨true,1,[eN j]⟩->(∀i:Id,i.site=240026008->i.bm<nx->g' i=g i)->FC g' ⟨240025002,v⟩ (L++[[j]]) uu:=by
 obtain⟨rows,ids,h1,h2,h3,h4,h5,h6⟩:=h
 refine⟨rows,h1,h2.len,fun g' v v' uu hv vw Lm q1 q2 q3=>⟨_,ids++[⟨240026008,v'⟩],q1,(h2.frame LH fun i hi=>q3 i (h4 i hi).1 (h4 i hi).2).app (.one ⟨_,rfl,q2,rfl⟩),?_,fun i hi=>?_,rfl,vw⟩⟩
 ·refine List.nodup_append.2 ⟨h3,by simp,fun a ha b hb nG=>?_⟩
  rw[List.mem_singleton.1 hb]at nG
  have:=(h4 a ha).2
  rw[nG]at this
  simp only at this
  omega
 ·rcases List.mem_append.1 hi with hi|hi
  ·have:=h4 i hi;exact⟨this.1,by omega⟩
  ·rw[List.mem_singleton.1 hi];exact⟨rfl,Lm⟩
theorem FC.add {g:Rows} {o:Id} {L:List (List Nat)} {nx k:Nat} {La:List Nat} (h:FC g o L nx) (hk:L[k]? =some La) (j:Nat):∃rows id,g o=some ⟨true,1,rows⟩/\rows.length=L.length/\rows[k]? =some [.own id 0 La.length]/\g id=some ⟨true,1,La.map eN⟩/\id.site=240026008/\id.bm<nx/\∀(g':Rows) (v' uu:Nat),nx<=v'->v'<uu->g' o=some ⟨true,1,rows.set k [.own ⟨240026008,v'⟩ 0 (La.length+1)]⟩->g' ⟨240026008,v'⟩=some ⟨true,1,La.map eN++[[.int .i64 (j:Int)]]⟩->(∀i:Id,i.site=240026008->i.bm<nx->(i=id)=False->g' i=g i)->FC g' o (L.set k (La++[j])) uu:=by
 obtain⟨rows,ids,h1,h2,h3,h4,h5,h6⟩:=h
 have k8:k<L.length:=(List.getElem?_eq_some_iff.1 hk).1
 have Tz:=kF hk k8
 obtain⟨cs,ic,dt,Px,QQ,rE⟩:=h2.Rw LH h3 k k8
 rw[Tz]at Px
 obtain⟨id,rfl,q1,rfl⟩:=Px
 have hid:=h4 id (QQ id (by simp))
 refine⟨rows,id,h1,h2.len,dt,q1,hid.1,hid.2,fun g' v' uu hv vw r1 r2 r3=>?_⟩
 obtain⟨DE,s1,s2,s3⟩:=rE g' [.own ⟨240026008,v'⟩ 0 (La.length+1)] (La++[j]) [⟨240026008,v'⟩] ⟨_,by simp,by rw[r2];simp[eN],rfl⟩ (fun i hi Sz=>r3 i (h4 i hi).1 (h4 i hi).2 (by
  simp only[eq_iff_iff,iff_false];rintro rfl;exact Sz (by simp))) (by simp) fun i hi hc=>by
   rw[List.mem_singleton.1 hi]at hc
   have:=(h4 _ hc).2
   simp only at this
   omega
 refine⟨_,DE,r1,s1,s2,fun i hi=>?_,h5,by omega⟩
 rcases s3 i hi with h|h
 ·rw[List.mem_singleton.1 h];exact⟨rfl,vw⟩
 ·have:=h4 i h;exact⟨this.1,by omega⟩
def lL (G:Nat->Id) (n k:Nat):List (List AV):=(List.range n).map fun i=>[if i<k then .ptr (G i) 0 0 else .gI]
theorem me (G:Nat->Id) (n k:Nat):(lL G n k).length=n:=by simp[lL]
theorem Ha (G:Nat->Id) (n:Nat):List.replicate n [AV.gI]=lL G n 0:=by
 refine List.ext_getElem? fun i=>?_
 by_cases h:i<n
 ·rw[List.getElem?_replicate,if_pos h];simp[lL,h]
 ·rw[List.getElem?_eq_none (by simp;omega),List.getElem?_eq_none (by rw[me];omega)]
theorem wI {G:Nat->Id} {n i:Nat} (h:i<n):(lL G n n)[i]? =some [.ptr (G i) 0 0]:=by simp[lL,h]
theorem JQ {G:Nat->Id} {n k:Nat} (h:k<n):(lL G n k).set k [.ptr (G k) 0 0]=lL G n (k+1):=by
 refine List.ext_getElem? fun i=>?_
 rw[List.getElem?_set,me]
 by_cases hi:k=i
 ·subst hi;rw[if_pos rfl,if_pos h];simp[lL,h]
 ·rw[if_neg hi]
  by_cases fI:i<n
  ·simp only[lL,List.getElem?_map,List.getElem?_range fI,Option.map_some]
   by_cases xT:i<k
   ·rw[if_pos xT,if_pos (by omega)]
   ·rw[if_neg xT,if_neg (by omega)]
  ·rw[List.getElem?_eq_none (by rw[me];omega),List.getElem?_eq_none (by rw[me];omega)]
end Go.Proofs.YtgoelphibofcmaaGreat.V

namespace Go.Proofs.YtgoelphibofcmaaGreat.V
open Go.RowKit
attribute [local irreducible] eb wpOps gj Call
attribute [local go_sem] aJ fM eP fZ fY cL upd cu K.av cN AV.cells AV.cell rowOf rowsOf part ld rowAt bI bW dD ee gT bL dc ev fU eY dr ej da cZ dO dR bR aX cR bQ cV cU eh ek ei cQ bV db ef bP aP cX cE gS bw cJ bU aW dx bj dE AV.undef bD bF dV ec dI dS cF eu eB cD ep eo cW cY List.getD_cons_zero List.getD_cons_succ List.getD_nil List.all_cons List.all_nil Bool.and_true Bool.true_and Bool.and_self Bool.not_true Bool.not_false Option.map_some Option.map_none Option.bind_some Option.bind_none List.length_cons List.length_nil List.take_succ_cons List.take_zero List.take_nil List.drop_succ_cons List.drop_zero List.drop_nil List.head?_cons List.map_cons List.map_nil List.getElem?_cons_zero List.getElem?_cons_succ List.cons_append List.nil_append List.append_nil List.length_map List.set_cons_zero List.set_cons_succ Nat.reduceMul eq_self Int.toNat_natCast Int.natCast_nonneg and_self true_and and_true decide_true decide_false Bool.false_eq_true Nat.zero_add Nat.add_zero List.contains_cons List.contains_nil Bool.or_false Bool.false_or beq_self_eq_true Nat.reduceBEq ne_eq not_true_eq_false not_false_eq_true Id.mk.injEq false_and and_false Nat.reduceLT Int.reduceLE Int.reduceLT Int.reduceToNat Int.reduceNeg Int.reduceAdd Nat.le_refl List.length_append beq_true beq_false Bool.not_eq_eq_eq_not or_false false_or dM aj aq aH bd bz ck aU bf aT aZ cP bH
theorem gy {o:Id} {a:Nat} (h:o.site=a) {b v:Nat} (nG:(a==b)=false):(o=⟨b,v⟩)=False/\((⟨b,v⟩:Id)=o)=False:=by
 have h1:=zQ h (v:=v) nG
 refine⟨h1,?_⟩
 simp only[eq_iff_iff,iff_false]at h1 ⊢
 exact fun h=>h1 h.symm
theorem vg (cnt:Nat) (zi:1<=cnt) (hn:cnt<=1048576) (bs:List PB) (hb:∀b∈bs,b.a<cnt/\b.b<cnt) (nH:bs.length<=1048576):ar Tryz.prog 240 [.int .i64 cnt,.sl (bs.map aA)] (.sl ((fq cnt (eA bs)).map Ad)):=by
 intro n0
 refine Hz Nx rfl fun hl=>?_
 try simp only[q]
 clear hl
 have jA:(0:Int)<=(cnt:Int):=by omega
 have pE:(cnt:Int)<=((16777216:Nat):Int):=by omega
 obtain⟨G,hG⟩:∃G:Nat->Id,G=fun k=>⟨240005004,n0+3+4*k+2⟩:=⟨_,rfl⟩
 have R7:∀k,(G k).site=240005004:=fun k=>by rw[hG]
 have Tt:∀k,(G k).bm=n0+3+4*k+2:=fun k=>by rw[hG]
 have Tr:∀i j,i≠j->(G i=G j)=False:=fun i j h=>by
  simp only[eq_iff_iff,iff_false]
  intro he
  have h1:=Tt i
  rw[he,Tt j]at h1
  omega
 have KX:∀i s v,(240005004==s)=false->(G i=⟨s,v⟩)=False:=fun i s v h=>zQ (R7 i) h
 have hz:=Ha G cnt
 (try((repeat(revert hN;revert N;apply Pn.out));refine wk (tw @jA (tw @pE (tw @Int.le_refl @hz))) ?_;(repeat(refine Pn.mk ?_;intro N hN))))
 refine aO (fun n env st=>∃k:Nat,n=(cnt)-k/\k<=(cnt)/\env 21=.int .i64 (k:Int)/\st.get ⟨240001001,n0+1⟩=some ⟨true,1,lL G cnt k⟩/\(st.next=n0+3+4*k/\∀j:Nat,j<k->st.get (G j)=some ⟨true,2,[[.gI,.int .i64 (j:Int)]]⟩)) (cnt) ⟨0,by omega,by omega,sl @hz,sl @hz,⟨rfl,fun j hj=>by omega⟩⟩ ?_
 rintro n_a env_a st_a ⟨k,rfl,ale,a21,ag0,ke⟩ dv
 have a0:=dv 0 (by kernel_rfl);have a1:=dv 1 (by kernel_rfl);have a5:=dv 5 (by kernel_rfl);have Nh:=dv 19 (by kernel_rfl);have a20:=dv 20 (by kernel_rfl)
 simp only[go_sem, ↓reduceIte,Nat.reduceEqDiff,Nat.reduceAdd,Nat.reduceSub,Nat.reduceLeDiff,reduceCtorEq,hz]at a0 a1 a5 Nh a20
 clear dv
 obtain⟨ke,mv⟩:=ke
 by_cases hk:(k:Int)<(cnt:Int)
 ·have cz:∀{e:Env} {gg:Rows} {nx:Nat},(e 21=.int .i64 (IntKind.i64.wrap ((k:Int)+1)))->(gg ⟨240001001,n0+1⟩=some ⟨true,1,lL G cnt (k+1)⟩)->(nx=n0+3+4*(k+1)/\∀j:Nat,j<(k+1)->gg (G j)=some ⟨true,2,[[.gI,.int .i64 (j:Int)]]⟩)->∃m0,m0<(cnt)-k/\∃k:Nat,m0=(cnt)-k/\k<=(cnt)/\e 21=.int .i64 (k:Int)/\gg ⟨240001001,n0+1⟩=some ⟨true,1,lL G cnt k⟩/\(nx=n0+3+4*k/\∀j:Nat,j<k->gg (G j)=some ⟨true,2,[[.gI,.int .i64 (j:Int)]]⟩):=fun x1 x2 x3=>⟨_,by omega,k+1,rfl,by omega,(by rw[x1,az (by omega)]),x2,x3⟩
  have fa:k<cnt:=by omega
  have tl:=me G cnt k
  have dQ:=JQ (G:=G) fa
  have eR:(lL G cnt k)[k]? =some [.gI]:=by simp[lL,fa]
  have R5:(⟨240005004,st_a.next+1+1⟩:Id)=G k:=by rw[hG,ke]
  have hGf:∀j,j<k->(G j=G k)=False:=fun j hj=>Tr j k (by omega)
  have zb:∀j,(G j=(⟨240001001,n0+1⟩:Id))=False:=fun j=>KX j _ _ (by decide)
  have Dg:∀j,((⟨240001001,n0+1⟩:Id)=G j)=False:=fun j=>by
   have:=zb j
   simp only[eq_iff_iff,iff_false]at this ⊢
   exact fun h=>this h.symm
  (try((repeat(revert hN;revert N;apply Pn.out));refine wk (tw @a21 (tw @ag0 (tw @a0 (tw @a1 (tw @a5 (tw @Nh (tw @a20 (tw @hk (tw @tl (tw @R5 (tw @zb (tw @Dg (tw @dQ @eR))))))))))))) ?_;(repeat(refine Pn.mk ?_;intro N hN))))
  refine cz ?_ ?_ (by
   refine⟨by(try dsimp only)<;>omega,fun j hj=>?_⟩
   by_cases xU:j=k
   ·subst xU;simp only[go_sem, ↓reduceIte,Nat.reduceEqDiff,Nat.reduceAdd,Nat.reduceSub,Nat.reduceLeDiff,reduceCtorEq,R5,zb,Dg]
   ·have hold:=mv j (by omega)
    have gU:=hGf j (by omega)
    simp only[go_sem, ↓reduceIte,Nat.reduceEqDiff,Nat.reduceAdd,Nat.reduceSub,Nat.reduceLeDiff,reduceCtorEq,R5,zb,Dg,gU,hold])
  all_goals simp only[go_sem, ↓reduceIte,Nat.reduceEqDiff,Nat.reduceAdd,Nat.reduceSub,Nat.reduceLeDiff,reduceCtorEq,a21,ag0,a0,a1,a5,Nh,a20,R5,zb,Dg,dQ]
 have k8:cnt=k:=by omega
 subst k8
 (try((repeat(revert hN;revert N;apply Pn.out));refine wk (tw @a21 (tw @ag0 (tw @a0 (tw @a1 (tw @a5 (tw @Nh (tw @a20 @hk))))))) ?_;(repeat(refine Pn.mk ?_;intro N hN))))
 refine aO (fun n env st=>∃i:Nat,n=(bs.length)-i/\i<=(bs.length)/\env 33=.int .i64 (i:Int)/\st.get ⟨240001001,n0+1⟩=some ⟨true,1,lL G cnt cnt⟩/\(n0+3+4*cnt<=st.next)/\(∃px,nr cnt px (eA (bs.take i))/\tL st.get G cnt px)) (bs.length) ⟨0,by omega,by omega,sl (tw @a21 (tw @ag0 (tw @a0 (tw @a1 (tw @a5 (tw @Nh @a20)))))),sl (tw @a21 (tw @ag0 (tw @a0 (tw @a1 (tw @a5 (tw @Nh @a20)))))),(by(try dsimp only);omega),⟨fun _=>none,nr.start cnt,mv⟩⟩ ?_
 rintro n_b env_b st_b ⟨i,rfl,ble,tN,bg0,bI0,bI1⟩ eV
 have b0:=eV 0 (by kernel_rfl);have b1:=eV 1 (by kernel_rfl);have b5:=eV 5 (by kernel_rfl);have xw:=eV 31 (by kernel_rfl);have ta:=eV 32 (by kernel_rfl)
 simp only[go_sem, ↓reduceIte,Nat.reduceEqDiff,Nat.reduceAdd,Nat.reduceSub,Nat.reduceLeDiff,reduceCtorEq,a21,ag0,a0,a1,a5,Nh,a20]at b0 b1 b5 xw ta
 clear eV
 obtain⟨px,Km,R6⟩:=bI1
 have tl:=me G cnt cnt
 have Qo:∀j v,(G j=(⟨240009002,v⟩:Id))=False:=fun j v=>KX j _ v (by decide)
 have zb:∀j v,(G j=(⟨240001001,v⟩:Id))=False:=fun j v=>KX j _ v (by decide)
 have Dg:∀j v,((⟨240001001,v⟩:Id)=G j)=False:=fun j v=>by
  have:=zb j v
  simp only[eq_iff_iff,iff_false]at this ⊢
  exact fun h=>this h.symm
 have hGn:∀j,j<cnt->(G j).bm<st_b.next:=fun j hj=>by rw[Tt];omega
 by_cases hi:(i:Int)<(bs.length:Int)
 ·have fh:∀{e:Env} {gg:Rows} {nx:Nat},(e 33=.int .i64 (IntKind.i64.wrap ((i:Int)+1)))->(gg ⟨240001001,n0+1⟩=some ⟨true,1,lL G cnt cnt⟩)->(n0+3+4*cnt<=nx)->(∃px,nr cnt px (eA (bs.take (i+1)))/\tL gg G cnt px)->∃m0,m0<(bs.length)-i/\∃i:Nat,m0=(bs.length)-i/\i<=(bs.length)/\e 33=.int .i64 (i:Int)/\gg ⟨240001001,n0+1⟩=some ⟨true,1,lL G cnt cnt⟩/\(n0+3+4*cnt<=nx)/\(∃px,nr cnt px (eA (bs.take i))/\tL gg G cnt px):=fun x1 x2 x3 x4=>⟨_,by omega,i+1,rfl,by omega,(by rw[x1,az (by omega)]),x2,x3,x4⟩
  have fI:i<bs.length:=by omega
  have kh:(bs.map aA)[i]? =some (aA bs[i]):=by simp[fI]
  have Gb:=hb _ (List.getElem_mem fI)
  have oE:bs.take (i+1)=bs.take i++[bs[i]]:=List.take_succ_eq_append_getElem fI
  have lv:eA (bs.take (i+1))=eL (eA (bs.take i)) bs[i]:=by rw[oE,vE]
  have hL:=tx (bs.take i)
  generalize eA (bs.take i)=L at *
  generalize bs[i]=b at *
  have gA:=wI (G:=G) Gb.1
  have gB:=wI (G:=G) Gb.2
  have gC:(b.a:Int)<(cnt:Int):=by omega
  have fo:(b.b:Int)<(cnt:Int):=by omega
  (try((repeat(revert hN;revert N;apply Pn.out));refine wk (tw @tN (tw @bg0 (tw @b0 (tw @b1 (tw @b5 (tw @xw (tw @ta (tw @hi (tw @kh (tw @aA.eq_1 (tw @gA (tw @gB (tw @gC (tw @fo @tl)))))))))))))) ?_;(repeat(refine Pn.mk ?_;intro N hN))))
  refine Ez (fun e s=>e 0=.int .i64 cnt/\e 1=.sl (bs.map aA)/\e 5=.own ⟨240001001,n0+1⟩ 0 cnt/\e 31=.sl (bs.map aA)/\e 32=.int .i64 bs.length/\e 33=.int .i64 i/\e 9=.ptr (G (L b.a)) 0 0/\e 10=.ptr (G (L b.b)) 0 0/\(∀j:Id,j.bm<st_b.next->s.get j=st_b.get j)/\st_b.next<=s.next) ?_ ?_
  ·rintro e1 s1 ⟨m0,m1,m5,m31,m32,m33,m9,m10,mf,mn⟩
   refine hN _ _ ?_
   clear hN N
   have mG:tL s1.get G cnt px:=R6.frame fun k hk=>mf _ (hGn k hk)
   have mt:=(mf ⟨240001001,n0+1⟩ (by(try dsimp only);omega)).trans bg0
   have Uf:L b.a<cnt:=Nat.lt_of_le_of_lt (hL.le _) Gb.1
   have QS:L b.b<cnt:=Nat.lt_of_le_of_lt (hL.le _) Gb.2
   have ra:=mG _ Uf
   have rb:=mG _ QS
   rw[lr (Km.root hL Uf (hL.idem _))]at ra
   rw[lr (Km.root hL QS (hL.idem _))]at rb
   have put:∀(g':Rows) (lo hi:Nat),hi<cnt->g' (G hi)=some ⟨true,2,[[.ptr (G lo) 0 0,.int .i64 (hi:Int)]]⟩->(∀k,k≠hi->k<cnt->g' (G k)=s1.get (G k))->tL g' G cnt (fun k=>if k=hi then some lo else px k):=fun g' lo hi _ h1 h2 k hk=>by
    by_cases Kk:k=hi
    ·subst Kk;rw[h1,tp (j:=lo) (if_pos rfl)]
    ·rw[h2 k Kk hk,mG k hk]
     unfold sF
     simp only[if_neg Kk]
   rcases Nat.lt_trichotomy (L b.a) (L b.b)with dP|heq|dP
   ·have Oc:(L b.a:Int)<(L b.b:Int):=by omega
    have hj:=Km.join hL b (by omega)
    rw[Nat.max_eq_right (by omega),Nat.min_eq_left (by omega),<-lv]at hj
    (try((repeat(revert hN;revert N;apply Pn.out));refine wk (tw @m0 (tw @m1 (tw @m5 (tw @m31 (tw @m32 (tw @m33 (tw @m9 (tw @m10 (tw @ra (tw @rb @Oc)))))))))) ?_;(repeat(refine Pn.mk ?_;intro N hN))))
    refine fh ?_ ?_ (by(try dsimp only);omega) (⟨_,hj,put _ _ _ QS (sd @Nat.zero_add) (fun k hk _=>by
     have gU:=Tr k _ hk
     simp only[go_sem, ↓reduceIte,Nat.reduceEqDiff,Nat.reduceAdd,Nat.reduceSub,Nat.reduceLeDiff,reduceCtorEq,gU])⟩)
    all_goals simp only[go_sem, ↓reduceIte,Nat.reduceEqDiff,Nat.reduceAdd,Nat.reduceSub,Nat.reduceLeDiff,reduceCtorEq,m0,m1,m5,m31,m32,m33,mt,zb,Dg]
   ·have zi:¬(L b.a:Int)<(L b.b:Int):=by omega
    have Og:¬(L b.b:Int)<(L b.a:Int):=by omega
    have Li:=zp heq
    rw[Li]at lv
    (try((repeat(revert hN;revert N;apply Pn.out));refine wk (tw @m0 (tw @m1 (tw @m5 (tw @m31 (tw @m32 (tw @m33 (tw @m9 (tw @m10 (tw @ra (tw @rb (tw @zi @Og))))))))))) ?_;(repeat(refine Pn.mk ?_;intro N hN))))
    refine fh ?_ ?_ (by(try dsimp only);omega) (⟨_,lv▸Km,mG.frame fun k hk=>rfl⟩)
    all_goals simp only[go_sem, ↓reduceIte,Nat.reduceEqDiff,Nat.reduceAdd,Nat.reduceSub,Nat.reduceLeDiff,reduceCtorEq,m0,m1,m5,m31,m32,m33,mt]
   ·have Oc:(L b.b:Int)<(L b.a:Int):=by omega
    have zi:¬(L b.a:Int)<(L b.b:Int):=by omega
    have hj:=Km.join hL b (by omega)
    rw[Nat.max_eq_left (by omega),Nat.min_eq_right (by omega),<-lv]at hj
    (try((repeat(revert hN;revert N;apply Pn.out));refine wk (tw @m0 (tw @m1 (tw @m5 (tw @m31 (tw @m32 (tw @m33 (tw @m9 (tw @m10 (tw @ra (tw @rb (tw @Oc @zi))))))))))) ?_;(repeat(refine Pn.mk ?_;intro N hN))))
    refine fh ?_ ?_ (by(try dsimp only);omega) (⟨_,hj,put _ _ _ Uf (sd @Nat.zero_add) (fun k hk _=>by
     have gU:=Tr k _ hk
     simp only[go_sem, ↓reduceIte,Nat.reduceEqDiff,Nat.reduceAdd,Nat.reduceSub,Nat.reduceLeDiff,reduceCtorEq,gU])⟩)
    all_goals simp only[go_sem, ↓reduceIte,Nat.reduceEqDiff,Nat.reduceAdd,Nat.reduceSub,Nat.reduceLeDiff,reduceCtorEq,m0,m1,m5,m31,m32,m33,mt,zb,Dg]
  ·intro N hN
   refine e7 ?_ ?_<;>(try((repeat(revert hN;revert N;apply Pn.out));refine wk (tw @tN (tw @bg0 (tw @b0 (tw @b1 (tw @b5 (tw @xw (tw @ta (tw @hi (tw @kh (tw @aA.eq_1 (tw @gA (tw @gB (tw @gC (tw @fo @tl)))))))))))))) ?_;(repeat(refine Pn.mk ?_;intro N hN))))<;>(try refine e7 ?_ ?_)<;>(try((repeat(revert hN;revert N;apply Pn.out));refine wk (tw @tN (tw @bg0 (tw @b0 (tw @b1 (tw @b5 (tw @xw (tw @ta (tw @hi (tw @kh (tw @aA.eq_1 (tw @gA (tw @gB (tw @gC (tw @fo @tl)))))))))))))) ?_;(repeat(refine Pn.mk ?_;intro N hN))))<;>(try refine e7 ?_ ?_)<;>(try((repeat(revert hN;revert N;apply Pn.out));refine wk (tw @tN (tw @bg0 (tw @b0 (tw @b1 (tw @b5 (tw @xw (tw @ta (tw @hi (tw @kh (tw @aA.eq_1 (tw @gA (tw @gB (tw @gC (tw @fo @tl)))))))))))))) ?_;(repeat(refine Pn.mk ?_;intro N hN))))
   all_goals
    refine .inr (aL _ _ _ _ _ (fun r σ1 hq=>?_) (yZ G cnt px L Km b.a Gb.1 _ (R6.frame fun k hk=>sd @Qo)))
    obtain⟨g1,x1⟩:=σ1
    obtain⟨rfl,Ah,K5⟩:=hq
    (try dsimp only at Ah K5)
    subst Ah
    refine hN _ _ ?_
    clear hN N
    (try((repeat(revert hN;revert N;apply Pn.out));refine wk (tw @tN (tw @bg0 (tw @b0 (tw @b1 (tw @b5 (tw @xw (tw @ta (tw @hi (tw @kh (tw @aA.eq_1 (tw @gA (tw @gB (tw @gC (tw @fo @tl)))))))))))))) ?_;(repeat(refine Pn.mk ?_;intro N hN))))
    refine .inr (aL _ _ _ _ _ (fun r σ1 hq=>?_) (yZ G cnt px L Km b.b Gb.2 _ (R6.frame fun k hk=>sd @Qo)))
    obtain⟨g1,x2⟩:=σ1
    obtain⟨rfl,Ah,mL⟩:=hq
    (try dsimp only at Ah mL)
    subst Ah
    refine hN _ _ ?_
    clear hN N
    (try((repeat(revert hN;revert N;apply Pn.out));refine wk (tw @tN (tw @bg0 (tw @b0 (tw @b1 (tw @b5 (tw @xw (tw @ta (tw @hi (tw @kh (tw @aA.eq_1 (tw @gA (tw @gB (tw @gC (tw @fo @tl)))))))))))))) ?_;(repeat(refine Pn.mk ?_;intro N hN))))
    exact⟨sd (tw @tN (tw @bg0 (tw @b0 (tw @b1 (tw @b5 (tw @xw @ta)))))),sd (tw @tN (tw @bg0 (tw @b0 (tw @b1 (tw @b5 (tw @xw @ta)))))),sd (tw @tN (tw @bg0 (tw @b0 (tw @b1 (tw @b5 (tw @xw @ta)))))),sd (tw @tN (tw @bg0 (tw @b0 (tw @b1 (tw @b5 (tw @xw @ta)))))),sd (tw @tN (tw @bg0 (tw @b0 (tw @b1 (tw @b5 (tw @xw @ta)))))),sd (tw @tN (tw @bg0 (tw @b0 (tw @b1 (tw @b5 (tw @xw @ta)))))),sd (tw @tN (tw @bg0 (tw @b0 (tw @b1 (tw @b5 (tw @xw @ta)))))),sd (tw @tN (tw @bg0 (tw @b0 (tw @b1 (tw @b5 (tw @xw @ta)))))),fun j hj=>by
     have hv:=dz hj
     simp only[go_sem, ↓reduceIte,Nat.reduceEqDiff,Nat.reduceAdd,Nat.reduceSub,Nat.reduceLeDiff,reduceCtorEq,hv],by(try dsimp only);omega⟩
 have nz:i=bs.length:=by omega
 subst nz
 rw[List.take_length]at Km
 have hL:=tx bs
 generalize eA bs=L at *
 (try((repeat(revert hN;revert N;apply Pn.out));refine wk (tw @tN (tw @bg0 (tw @b0 (tw @b1 (tw @b5 (tw @xw (tw @ta (tw @hi @tl)))))))) ?_;(repeat(refine Pn.mk ?_;intro N hN))))
 have l0:kK 0 L=[]:=rfl
 have oS:(none:Option Nat).isSome=false:=rfl
 have oT:∀a:Nat,(some a).isSome=true:=fun _=>rfl
 refine aO (fun n env st=>∃x:Nat,n=(cnt)-x/\x<=(cnt)/\env 81=.int .i64 (x:Int)/\st.get ⟨240001001,n0+1⟩=some ⟨true,1,lL G cnt cnt⟩/\st.get ⟨240017000,st_b.next+1+1⟩=some ⟨true,mI.lJ,kK x L⟩/\(st_b.next+3<=st.next/\tL st.get G cnt px)/\((x=0/\env 11=.cr)∨∃o:Id,env 11=.own o 0 (leads x L).length/\FC st.get o (jC x L) st.next)) (cnt) ⟨0,by omega,by omega,sl (tw @tN (tw @bg0 (tw @b0 (tw @b1 (tw @b5 (tw @xw (tw @ta @l0))))))),sl (tw @tN (tw @bg0 (tw @b0 (tw @b1 (tw @b5 (tw @xw (tw @ta @l0))))))),sl (tw @tN (tw @bg0 (tw @b0 (tw @b1 (tw @b5 (tw @xw (tw @ta @l0))))))),⟨by(try dsimp only);omega,R6.frame fun k hk=>by(have gU:=KX k 240017000 (st_b.next+1+1) (by decide));simp only[go_sem, ↓reduceIte,Nat.reduceEqDiff,Nat.reduceAdd,Nat.reduceSub,Nat.reduceLeDiff,reduceCtorEq,gU]⟩,.inl ⟨rfl,sd @Nat.zero_add⟩⟩ ?_
 rintro n_c env_c st_c ⟨x,rfl,cle,c81,cg0,cg1,cI0,cI1⟩ iG
 have p9:=iG 12 (by kernel_rfl);have KF:=iG 79 (by kernel_rfl);have KG:=iG 80 (by kernel_rfl)
 simp only[go_sem, ↓reduceIte,Nat.reduceEqDiff,Nat.reduceAdd,Nat.reduceSub,Nat.reduceLeDiff,reduceCtorEq,tN,bg0,b0,b1,b5,xw,ta,l0]at p9 KF KG
 clear iG
 obtain⟨o3,Qc⟩:=cI0
 have NV:∀j v,(G j=(⟨240017000,v⟩:Id))=False:=fun j v=>KX j _ v (by decide)
 have NR:∀j v,(G j=(⟨240025002,v⟩:Id))=False:=fun j v=>KX j _ v (by decide)
 have NT:∀j v,(G j=(⟨240025001,v⟩:Id))=False:=fun j v=>KX j _ v (by decide)
 have NU:∀j v,(G j=(⟨240026007,v⟩:Id))=False:=fun j v=>KX j _ v (by decide)
 have NS:∀j v,(G j=(⟨240026008,v⟩:Id))=False:=fun j v=>KX j _ v (by decide)
 by_cases hx:(x:Int)<(cnt:Int)
 ·have gx:∀{e:Env} {gg:Rows} {nx:Nat},(e 81=.int .i64 (IntKind.i64.wrap ((x:Int)+1)))->(gg ⟨240001001,n0+1⟩=some ⟨true,1,lL G cnt cnt⟩)->(gg ⟨240017000,st_b.next+1+1⟩=some ⟨true,mI.lJ,kK (x+1) L⟩)->(st_b.next+3<=nx/\tL gg G cnt px)->(((x+1)=0/\e 11=.cr)∨∃o:Id,e 11=.own o 0 (leads (x+1) L).length/\FC gg o (jC (x+1) L) nx)->∃m0,m0<(cnt)-x/\∃x:Nat,m0=(cnt)-x/\x<=(cnt)/\e 81=.int .i64 (x:Int)/\gg ⟨240001001,n0+1⟩=some ⟨true,1,lL G cnt cnt⟩/\gg ⟨240017000,st_b.next+1+1⟩=some ⟨true,mI.lJ,kK x L⟩/\(st_b.next+3<=nx/\tL gg G cnt px)/\((x=0/\e 11=.cr)∨∃o:Id,e 11=.own o 0 (leads x L).length/\FC gg o (jC x L) nx):=fun x1 x2 x3 x4 x5=>⟨_,by omega,x+1,rfl,by omega,(by rw[x1,az (by omega)]),x2,x3,x4,x5⟩
  have PW:x<cnt:=by omega
  have gX:=wI (G:=G) PW
  have hlx:L x<cnt:=Nat.lt_of_le_of_lt (hL.le _) PW
  have ra:=Qc _ hlx
  rw[lr (Km.root hL hlx (hL.idem _))]at ra
  have lY:=jF x L
  (try((repeat(revert hN;revert N;apply Pn.out));refine wk (tw @c81 (tw @cg0 (tw @cg1 (tw @p9 (tw @KF (tw @KG (tw @hx (tw @gX @tl)))))))) ?_;(repeat(refine Pn.mk ?_;intro N hN))))
  refine .inr (aL _ _ _ _ _ (fun r σ1 hq=>?_) (yZ G cnt px L Km x PW _ (Qc.frame fun k hk=>sd @Nat.zero_add)))
  obtain⟨g1,x1⟩:=σ1
  obtain⟨rfl,Ah,K5⟩:=hq
  (try dsimp only at Ah K5)
  subst Ah
  refine hN _ _ ?_
  clear hN N
  by_cases hr:L x=x
  ·rw[hr]at ra ⊢
   have ml:=GB hr
   have Sw:(leads (x+1) L).length=(leads x L).length+1:=by rw[gH,if_pos hr];simp
   have PR:=DN hr
   have Sq:=Dc hL hr
   rcases cI1 with⟨rfl,nE⟩|⟨o,nE,cS⟩
   ·have Ux:kK 1 L=[[.int .i64 ((0:Nat):Int),.int .i64 ((0:Nat):Int)]]:=PR
    (try((repeat(revert hN;revert N;apply Pn.out));refine wk (tw @c81 (tw @cg0 (tw @cg1 (tw @p9 (tw @KF (tw @KG (tw @nE (tw @ra (tw @ml (tw @l0 (tw @oS (tw @oT (tw @Bool.not_false @Bool.not_true))))))))))))) ?_;(repeat(refine Pn.mk ?_;intro N hN))))
    refine gx ?_ ?_ ?_ (by(try dsimp only);exact⟨by omega,Qc.frame fun k hk=>sd (tw @NV (tw @NR (tw @NS (tw @NT @NU))))⟩) (.inr ⟨⟨240025002,x1+1+1+1+1⟩,by simp only[go_sem, ↓reduceIte,Nat.reduceEqDiff,Nat.reduceAdd,Nat.reduceSub,Nat.reduceLeDiff,reduceCtorEq,Sw];rfl,by rw[Sq];exact KU (v':=x1+1+1+1+1+1) (sd @Nat.zero_add) (sd @eN.eq_1) (by(try dsimp only);omega) (by(try dsimp only);omega)⟩)
    all_goals simp only[go_sem, ↓reduceIte,Nat.reduceEqDiff,Nat.reduceAdd,Nat.reduceSub,Nat.reduceLeDiff,reduceCtorEq,c81,cg0,cg1,p9,KF,KG,Ux]
   ·obtain⟨rows,tV,si,kH⟩:=cS.new x
    rw[qm]at si
    have Bh:o.site=240025002:=by obtain⟨_,_,_,_,_,_,h,_⟩:=cS;exact h
    have rD:o.bm<x1:=by obtain⟨_,_,_,_,_,_,_,h⟩:=cS;omega
    have qu:=dz rD
    have QZ:=gy (o:=o) Bh (b:=240017000) (v:=st_b.next+1+1) (by decide)
    have PK:=gy (o:=o) Bh (b:=240001001) (v:=n0+1) (by decide)
    have NW:∀k,(G k=o)=False:=fun k=>by simp only[eq_iff_iff,iff_false];intro h;have h1:=R7 k;rw[h,Bh]at h1;cases h1
    have sf:(rows++[[AV.cr]])[(leads x L).length]? =some [.cr]:=by rw[<-si];simp
    have Bp:∀a:List AV,(rows++[[AV.cr]]).set (leads x L).length a=rows++[a]:=fun a=>by rw[<-si];simp
    have e1:(leads x L).length+1<=16777216:=by omega
    have e2:((leads x L).length:Int)<(((leads x L).length+1:Nat):Int):=by omega
    (try((repeat(revert hN;revert N;apply Pn.out));refine wk (tw @c81 (tw @cg0 (tw @cg1 (tw @p9 (tw @KF (tw @KG (tw @nE (tw @ra (tw @ml (tw @tV (tw @si (tw @qu (tw @QZ (tw @sf (tw @Bp (tw @e1 (tw @e2 (tw @oS (tw @oT (tw @Bool.not_false @Bool.not_true)))))))))))))))))))) ?_;(repeat(refine Pn.mk ?_;intro N hN))))
    refine gx ?_ ?_ ?_ (by(try dsimp only);exact⟨by omega,Qc.frame fun k hk=>sd (tw @NV (tw @NR (tw @NS (tw @NT (tw @NU @NW)))))⟩) (.inr ⟨⟨240025002,x1+1+1+1+1⟩,sd @Sw,by rw[Sq];exact kH _ _ (x1+1+1+1+1+1) _ (by omega) (by(try dsimp only);omega) (by(try dsimp only);omega) (sd @Bp) (sd @eN.eq_1) (fun j hj hv=>by
     have q1:=dz (i:=j) (n:=x1) (by omega)
     have q2:=gy hj (b:=240017000) (v:=st_b.next+1+1) (by decide)
     have q3:(j=o)=False:=by simp only[eq_iff_iff,iff_false];intro h;rw[h,Bh]at hj;cases hj
     simp only[go_sem, ↓reduceIte,Nat.reduceEqDiff,Nat.reduceAdd,Nat.reduceSub,Nat.reduceLeDiff,reduceCtorEq,q1,q2,q3])⟩)
    all_goals simp only[go_sem, ↓reduceIte,Nat.reduceEqDiff,Nat.reduceAdd,Nat.reduceSub,Nat.reduceLeDiff,reduceCtorEq,c81,cg0,cg1,p9,KF,KG,PR,qu,QZ,PK]
  ·obtain⟨ml,IS,dP⟩:=yc hL hr
   obtain⟨QM,Sq⟩:=Dd hL hr
   have Sw:(leads (x+1) L).length=(leads x L).length:=by rw[gH,if_neg hr];simp
   have Li:=DM hr
   rcases cI1 with⟨rfl,nE⟩|⟨o,nE,cS⟩
   ·exact absurd (Nat.le_zero.1 (hL.le 0)) hr
   ·obtain⟨rows,id,tV,si,hrk,hid,IF,hidv,TM⟩:=cS.add QM x
    rw[qm]at si
    have Bh:o.site=240025002:=by obtain⟨_,_,_,_,_,_,h,_⟩:=cS;exact h
    have rD:o.bm<x1:=by obtain⟨_,_,_,_,_,_,_,h⟩:=cS;omega
    have qu:=dz rD
    have vw:=dz (i:=id) (n:=x1) (by omega)
    have kh:(bJ L x:Int)<((leads x L).length:Int):=by omega
    have QV:=BN x L (L x)
    have hma:((members x L (L x)).map eN).length=(members x L (L x)).length:=by simp
    have e1:(members x L (L x)).length+1<=16777216:=by omega
    have PL:(o=id)=False:=by simp only[eq_iff_iff,iff_false];rintro rfl;rw[IF]at Bh;cases Bh
    have PD:(id=o)=False:=by simp only[eq_iff_iff,iff_false];rintro rfl;rw[IF]at Bh;cases Bh
    have QZ:=gy (o:=o) Bh (b:=240017000) (v:=st_b.next+1+1) (by decide)
    have PK:=gy (o:=o) Bh (b:=240001001) (v:=n0+1) (by decide)
    have hiM:=gy (o:=id) IF (b:=240017000) (v:=st_b.next+1+1) (by decide)
    have hiT:=gy (o:=id) IF (b:=240001001) (v:=n0+1) (by decide)
    have NW:∀k,(G k=o)=False:=fun k=>by simp only[eq_iff_iff,iff_false];intro h;have h1:=R7 k;rw[h,Bh]at h1;cases h1
    have Ts:∀k,(G k=id)=False:=fun k=>by simp only[eq_iff_iff,iff_false];intro h;have h1:=R7 k;rw[h,IF]at h1;cases h1
    (try((repeat(revert hN;revert N;apply Pn.out));refine wk (tw @c81 (tw @cg0 (tw @cg1 (tw @p9 (tw @KF (tw @KG (tw @nE (tw @ra (tw @ml (tw @IS (tw @tV (tw @si (tw @hrk (tw @hid (tw @qu (tw @vw (tw @kh (tw @hma (tw @e1 (tw @PL (tw @PD (tw @QZ (tw @PK (tw @hiM (tw @hiT (tw @oS (tw @oT (tw @Bool.not_false @Bool.not_true)))))))))))))))))))))))))))) ?_;(repeat(refine Pn.mk ?_;intro N hN))))
    refine gx ?_ ?_ ?_ (by(try dsimp only);exact⟨by omega,Qc.frame fun k hk=>sd (tw @NV (tw @NR (tw @NS (tw @NT (tw @NU (tw @NW @Ts))))))⟩) (.inr ⟨o,sd (tw @Sw @nE),by rw[Sq];exact TM _ (x1+1+1) _ (by omega) (by(try dsimp only);omega) (sd @Nat.zero_add) (sd (tw @qu (tw @vw (tw @PL @PD)))) (fun j hj hv mj=>by
     have q1:=dz (i:=j) (n:=x1) (by omega)
     have q2:=gy hj (b:=240017000) (v:=st_b.next+1+1) (by decide)
     have q3:(j=o)=False:=by simp only[eq_iff_iff,iff_false];intro h;rw[h,Bh]at hj;cases hj
     simp only[go_sem, ↓reduceIte,Nat.reduceEqDiff,Nat.reduceAdd,Nat.reduceSub,Nat.reduceLeDiff,reduceCtorEq,q1,q2,q3,mj])⟩)
    all_goals simp only[go_sem, ↓reduceIte,Nat.reduceEqDiff,Nat.reduceAdd,Nat.reduceSub,Nat.reduceLeDiff,reduceCtorEq,c81,cg0,cg1,p9,KF,KG,Li,qu,vw,QZ,PK,hiM,hiT]
 have UG:x=cnt:=by omega
 rcases cI1 with⟨h0,_⟩|⟨o,nE,rows,ids,tV,hR,_,_,_,_⟩
 ·omega
 have si:=hR.len
 rw[qm]at si
 (try((repeat(revert hN;revert N;apply Pn.out));refine wk (tw @c81 (tw @cg0 (tw @cg1 (tw @p9 (tw @KF (tw @KG (tw @hx (tw @nE @tV)))))))) ?_;(repeat(refine Pn.mk ?_;intro N hN))))
 refine wm (.inl rfl) (by simp only[go_sem, ↓reduceIte,Nat.reduceEqDiff,Nat.reduceAdd,Nat.reduceSub,Nat.reduceLeDiff,reduceCtorEq];rfl) ?_
 rw[ui tV (by omega) (rows':=(fq cnt L).map Ad) (by
  rw[List.drop_zero,List.take_of_length_le (by omega)]
  rw[UG]at hR;exact Ja 3 hR)]
end Go.Proofs.YtgoelphibofcmaaGreat.V

namespace Go.Proofs.YtgoelphibofcmaaGreat.V
open Go.RowKit
attribute [local irreducible] eb wpOps gj Call
attribute [local go_sem] aJ fM eP fZ fY cL upd cu K.av cN AV.cells AV.cell rowOf rowsOf part ld rowAt bI bW dD ee gT bL dc ev fU eY dr ej da cZ dO dR bR aX cR bQ cV cU eh ek ei cQ bV db ef bP aP cX cE gS bw cJ bU aW dx bj dE AV.undef bD bF dV ec dI dS cF eu eB cD ep eo cW cY List.getD_cons_zero List.getD_cons_succ List.getD_nil List.all_cons List.all_nil Bool.and_true Bool.true_and Bool.and_self Bool.not_true Bool.not_false Option.map_some Option.map_none Option.bind_some Option.bind_none List.length_cons List.length_nil List.take_succ_cons List.take_zero List.take_nil List.drop_succ_cons List.drop_zero List.drop_nil List.head?_cons List.map_cons List.map_nil List.getElem?_cons_zero List.getElem?_cons_succ List.cons_append List.nil_append List.append_nil List.length_map List.set_cons_zero List.set_cons_succ Nat.reduceMul eq_self Int.toNat_natCast Int.natCast_nonneg and_self true_and and_true decide_true decide_false Bool.false_eq_true Nat.zero_add Nat.add_zero List.contains_cons List.contains_nil Bool.or_false Bool.false_or beq_self_eq_true Nat.reduceBEq ne_eq not_true_eq_false not_false_eq_true Id.mk.injEq false_and and_false Nat.reduceLT Int.reduceLE Int.reduceLT Int.reduceToNat Int.reduceNeg Int.reduceAdd Nat.le_refl List.length_append beq_true beq_false Bool.not_eq_eq_eq_not or_false false_or dM aj aq aH bd bz ck aU bf aT aZ cP bH
theorem J6 (b:PB) (t:Int):ar Tryz.prog 243 [.agg (aA b),.dj [.int .i64 t]] (.bool (decide (b.s<t))):=by
 refine ar.body eJ rfl fun hl n0=>?_
 clear hl
 (try((repeat(revert hN;revert N;apply Pn.out));refine wk @aA.eq_1 ?_;(repeat(refine Pn.mk ?_;intro N hN))))
 exact aQ (b:=decide (b.s<t)) (.inl rfl) (sd @Nat.zero_add) rfl
theorem x8 (bs:List PB) (t:Int) (hl:bs.length<=1048576):ar Tryz.prog 263 [.sl (bs.map aA),.fn 243 [.dj [.int .i64 t]]] (.int .i64 (j5 (fun b:PB=>decide (b.s<t)) bs)):=
 tu Ib (show mi Tryz.prog 263=some (vC 263 3 true) by kernel_rfl) bs hl 243 _ _ (fun x _=>J6 x t) fun g=>by simp only[aj,aq,aT,Option.map_some]
theorem H7 (bs:List PB) (hp:0<bs.length) (hl:bs.length<=1048576) (σ:au):
  Call Tryz.prog 242 [.sl (bs.map aA)] σ fun r σ'=>∃o:Id,r=.own o 0 bs.length/\σ'.get o=some ⟨true,3,bs.map aA⟩/\σ.next<=o.bm/\o.bm<σ'.next/\∀i:Id,i.bm<σ.next->σ'.get i=σ.get i:=by
 refine eU eJ rfl fun hl=>?_
 clear hl
 have hz:=all_map (l:=bs) M9
 obtain⟨b,r,rfl⟩:∃b r,bs=b::r:=by
  cases bs with
  |nil=>simp at hp
  |cons b r=>exact⟨b,r,rfl⟩
 have lY:(List.map aA (b::r)).length=(b::r).length:=by simp
 have e1:r.length<=16777215:=by simp at hl;omega
 rw[List.map_cons]at hz lY ⊢
 (try((repeat(revert hN;revert N;apply Pn.out));refine wk (tw @hz (tw @lY @e1)) ?_;(repeat(refine Pn.mk ?_;intro N hN))))
 refine ft (.inl rfl) (vs:=[.own ⟨242003002,σ.next+1+1⟩ 0 (b::r).length]) (by simp only[fu,iz,go_sem, ↓reduceIte,Nat.reduceEqDiff,Nat.reduceAdd,Nat.reduceSub,Nat.reduceLeDiff,reduceCtorEq,List.length_cons]) ⟨⟨242003002,σ.next+1+1⟩,rfl,sd @Nat.zero_add,by(try dsimp only);omega,by(try dsimp only);omega,fun i hi=>?_⟩
 have hv:=dz hi
 simp only[go_sem, ↓reduceIte,Nat.reduceEqDiff,Nat.reduceAdd,Nat.reduceSub,Nat.reduceLeDiff,reduceCtorEq,hv]
theorem oQ {t:Int} {bs:List PB} {j:Nat} (hj:j<bs.length):aI t (bs.take (j+1))=aI t (bs.take j)++if decide (bs[j].s<t)=true then[]else[bs[j]]:=by
 rw[tH t bs j hj]
 congr 1
 by_cases h:bs[j].s<t
 ·rw[if_neg (by omega),if_pos (decide_eq_true h)]
 ·rw[if_pos (by omega),if_neg (by simp only[decide_eq_true_eq];exact h)]
theorem tG {t:Int} {bs:List PB} (h:∀b∈bs,¬b.s<t):aI t bs=bs:=by
 unfold aI
 rw[List.filter_eq_self]
 intro b hb
 have:=h b hb
 exact decide_eq_true (by omega)
structure tK (t:Int) (bs:List PB) (j:Nat) (R:List PB):Prop where
 len:R.length=bs.length
 pre:R.take (aI t (bs.take j)).length=aI t (bs.take j)
 post:∀x,j<=x->R[x]? =bs[x]?
 lt:(aI t (bs.take j)).length<j
theorem tK.start {t:Int} {bs:List PB} {i:Nat} (hi:i<bs.length) (hw:bs[i].s<t) (hp:∀x (h:x<i),¬bs[x].s<t):tK t bs (i+1) bs/\(aI t (bs.take (i+1))).length=i:=by
 have h1:aI t (bs.take i)=bs.take i:=tG fun b hb=>by
  obtain⟨x,hx,rfl⟩:=List.getElem_of_mem hb
  rw[List.length_take]at hx
  rw[List.getElem_take]
  exact hp x (by omega)
 have h2:aI t (bs.take (i+1))=bs.take i:=by rw[oQ hi,if_pos (decide_eq_true hw),List.append_nil,h1]
 have h3:(bs.take i).length=i:=by rw[List.length_take];omega
 exact⟨⟨rfl,by rw[h2,h3],fun _ _=>rfl,by rw[h2,h3];omega⟩,by rw[h2,h3]⟩
theorem tK.RG {t:Int} {bs R:List PB} {j:Nat} (h:tK t bs j R) (hj:j<bs.length) (hw:bs[j].s<t):tK t bs (j+1) R/\(aI t (bs.take (j+1))).length=(aI t (bs.take j)).length:=by
 have h2:aI t (bs.take (j+1))=aI t (bs.take j):=by rw[oQ hj,if_pos (decide_eq_true hw),List.append_nil]
 exact⟨⟨h.len,by rw[h2];exact h.pre,fun x hx=>h.post x (by omega),by rw[h2];have:=h.lt;omega⟩,by rw[h2]⟩
theorem tK.tZ {t:Int} {bs R:List PB} {j:Nat} (h:tK t bs j R) (hj:j<bs.length) (hw:¬bs[j].s<t):tK t bs (j+1) (R.set (aI t (bs.take j)).length bs[j])/\(aI t (bs.take (j+1))).length=(aI t (bs.take j)).length+1:=by
 have h2:aI t (bs.take (j+1))=aI t (bs.take j)++[bs[j]]:=by rw[oQ hj,if_neg (by simp only[decide_eq_true_eq];exact hw)]
 have dP:=h.lt
 have hlen:=h.len
 have tW:=h.pre
 generalize hc:(aI t (bs.take j)).length=c at *
 refine⟨⟨by rw[List.length_set];exact hlen,?_,fun x hx=>?_,by rw[h2,List.length_append,hc];simp;omega⟩,by rw[h2,List.length_append,hc];rfl⟩
 ·rw[h2,List.length_append,hc,List.length_singleton,List.take_succ_eq_append_getElem (by rw[List.length_set];omega),List.getElem_set_self,List.take_set_of_le (Nat.le_refl _),tW]
 ·rw[List.getElem?_set_ne (by omega)];exact h.post x (by omega)
theorem tK.at_ {t:Int} {bs R:List PB} {j:Nat} (h:tK t bs j R) (hj:j<bs.length):(R.map aA)[j]? =some (aA bs[j]):=by
 rw[List.getElem?_map,h.post j (Nat.le_refl j),List.getElem?_eq_getElem hj];rfl
theorem C4 {p:PB->Bool} {bs:List PB} (h:¬0<=j5 p bs):∀b∈bs,p b=false:=by
 intro b hb
 unfold j5 at h
 split at h
 ·omega
 ·rename_i h1
  rw[List.findIdx_lt_length]at h1
  cases hp:p b
  ·rfl
  ·exact absurd ⟨b,hb,hp⟩ h1
theorem C5 {p:PB->Bool} {bs:List PB} (h:0<=j5 p bs):∃i,∃hi:i<bs.length,j5 p bs=(i:Int)/\p bs[i]=true/\∀x (hx:x<i),p (bs[x]'(by omega))=false:=by
 unfold j5 at h ⊢
 split
 ·rename_i h1
  exact⟨bs.findIdx p,h1,rfl,List.findIdx_getElem,fun x hx=>by simpa using List.not_of_lt_findIdx hx⟩
 ·rename_i h1;rw[if_neg h1]at h;omega
theorem FX (bs:List PB) (t:Int) (hl:bs.length<=1048576) (o T:Id) (σ:au) (ho:σ.get o=some ⟨true,3,bs.map aA⟩) (hT:σ.get T=some ⟨true,1,[[.int .i64 t]]⟩) (rD:o.bm<σ.next) (TG:T.bm<σ.next) (PK:o≠T):
  Call Tryz.prog 241 [.own o 0 bs.length,.fn 243 [.ptr T 0 0]] σ fun r σ'=>∃rows,r=.own o 0 (aI t bs).length/\σ'.get o=some ⟨true,3,rows⟩/\rows.take (aI t bs).length=(aI t bs).map aA/\(aI t bs).length<=rows.length/\σ.next<=σ'.next/\∀i:Id,i.bm<σ.next->i≠o->σ'.get i=σ.get i:=by
 refine eU eJ rfl fun mM=>?_
 clear mM
 have Cz:=x8 bs t hl
 have hzT:∀(g:Rows),g T=some ⟨true,1,[[.int .i64 t]]⟩->V.fz (dM g) 5 (.ptr T 0 0)=some (.dj [.int .i64 t]):=fun g hg=>y6 (sz:=1) (rows:=[[.int .i64 t]]) (by simp[dM,hg]) rfl (by simp only[List.drop_zero,aj,aq,aH,Option.map_some])
 have x7:∀(g:Rows),g T=some ⟨true,1,[[.int .i64 t]]⟩->g o=some ⟨true,3,bs.map aA⟩->cK (dM g) 6 [.own o 0 bs.length,.fn 243 [.ptr T 0 0]]=some [.sl (bs.map aA),.fn 243 [.dj [.int .i64 t]]]:=fun g h1 h2=>by
  have q1:=gY (g:=dM g) (n:=5) (e:=aA) (sz:=3) (len:=bs.length) (l:=bs) (id:=o) (by simp[dM,h2]) rfl fun b=>y4 _ 4 b
  have q2:=hzT g h1
  simp only[aj,aq,q1,cP,List.all_cons,List.all_nil,AV.cell,Bool.and_true,if_true,q2,Option.map_some]
 have ki:∀(g:Rows),g T=some ⟨true,1,[[.int .i64 t]]⟩->∀b:PB,cK (dM g) 6 [.agg (aA b),.ptr T 0 0]=some [.agg (aA b),.dj [.int .i64 t]]:=fun g h1 b=>by
  have q3:V.fz (dM g) 6 (.ptr T 0 0)=some (.dj [.int .i64 t]):=y6 (sz:=1) (rows:=[[.int .i64 t]]) (by simp[dM,h1]) rfl (by simp only[List.drop_zero,aj,aq,aH,Option.map_some])
  simp only[aj,aq,bf,y4,q3,Option.map_some]
 (try((repeat(revert hN;revert N;apply Pn.out));refine wk @Nat.zero_add ?_;(repeat(refine Pn.mk ?_;intro N hN))))
 refine .inl ⟨_,ar.x Cz (x7 _ hT ho),?_⟩
 refine hN _ _ ?_
 clear hN N
 by_cases h0:0<=j5 (fun b:PB=>decide (b.s<t)) bs
 ·obtain⟨i,hi,Gi,hpi,Oo⟩:=C5 h0
  rw[Gi]at *
  have K8:decide ((i:Int)= -1)=false:=decide_eq_false (by omega)
  have Rb:IntKind.i64.wrap ((i:Int)+1)=((i+1:Nat):Int):=az (by omega)
  obtain⟨dH,Bp⟩:=tK.start (t:=t) hi (by simpa using hpi) (fun x hx=>by simpa using Oo x hx)
  (try((repeat(revert hN;revert N;apply Pn.out));refine wk (tw @K8 @Rb) ?_;(repeat(refine Pn.mk ?_;intro N hN))))
  refine aO (fun m env st=>∃(j:Nat) (R:List PB),m=bs.length-j/\env 6=.int .i64 (j:Int)/\env 5=.int .i64 ((aI t (bs.take j)).length:Int)/\st.get o=some ⟨true,3,R.map aA⟩/\tK t bs j R/\j<=bs.length/\σ.next<=st.next/\∀x:Id,x.bm<σ.next->(x=o)=False->st.get x=σ.get x) (bs.length-(i+1)) ⟨i+1,bs,rfl,sd @Rb,sd @Bp,sd @ho,dH,by omega,by(try dsimp only);omega,fun x _ _=>sd @Nat.zero_add⟩ ?_
  rintro m env_b st_b ⟨j,R,rfl,b6,b5,bg,hD,gG,hle,lW⟩ eV
  have b0:=eV 0 (by kernel_rfl)
  have b1:=eV 1 (by kernel_rfl)
  simp only[go_sem, ↓reduceIte,Nat.reduceEqDiff,Nat.reduceAdd,Nat.reduceSub,Nat.reduceLeDiff,reduceCtorEq]at b0 b1
  clear eV
  have bT:=(lW T TG (by simp only[eq_iff_iff,iff_false];exact fun h=>PK h.symm)).trans hT
  have kr:=dz (i:=o) (n:=st_b.next) (by omega)
  have UD:=dz (i:=T) (n:=st_b.next) (by omega)
  have hRl:=hD.len
  have TD:(R.map aA).length=bs.length:=by rw[List.length_map,hRl]
  have dP:=hD.lt
  by_cases hj:(j:Int)<(bs.length:Int)
  ·have ia:j<bs.length:=by omega
   have zf:=hD.at_ ia
   have OA:=J6 bs[j] t
   have SJ:IntKind.i64.wrap ((j:Int)+1)=((j+1:Nat):Int):=az (by omega)
   have hD1:=hD.RG ia
   have hD2:=hD.tZ ia
   generalize bs[j]=b at *
   (try((repeat(revert hN;revert N;apply Pn.out));refine wk (tw @b0 (tw @b1 (tw @b5 (tw @b6 (tw @bg (tw @hj (tw @zf (tw @aA.eq_1 (tw @kr (tw @UD @TD)))))))))) ?_;(repeat(refine Pn.mk ?_;intro N hN))))
   refine .inl ⟨_,ar.x OA (ki _ (sd (tw @UD @bT)) b),?_⟩
   refine hN _ _ ?_
   clear hN N
   by_cases hw:b.s<t
   ·obtain⟨Tp,To⟩:=hD1 hw
    have hd:decide (b.s<t)=true:=decide_eq_true hw
    (try((repeat(revert hN;revert N;apply Pn.out));refine wk (tw @b0 (tw @b1 (tw @b5 (tw @b6 (tw @hd @SJ))))) ?_;(repeat(refine Pn.mk ?_;intro N hN))))
    refine⟨_,?_,j+1,R,rfl,sd @SJ,sd (tw @b5 @To),sd (tw @bg @kr),Tp,by omega,by(try dsimp only);omega,fun x hx Al=>?_⟩
    ·omega
    ·have PT:=dz (i:=x) (n:=st_b.next) (by omega)
     have:=lW x hx Al
     simp only[go_sem, ↓reduceIte,Nat.reduceEqDiff,Nat.reduceAdd,Nat.reduceSub,Nat.reduceLeDiff,reduceCtorEq,PT,this]
   ·obtain⟨Tp,To⟩:=hD2 hw
    have hd:decide (b.s<t)=false:=decide_eq_false hw
    have TQ:((aI t (bs.take j)).length:Int)<(bs.length:Int):=by omega
    have hwc:IntKind.i64.wrap (((aI t (bs.take j)).length:Int)+1)=(((aI t (bs.take j)).length+1:Nat):Int):=az (by omega)
    have dQ:(R.map aA).set (aI t (bs.take j)).length [.int .i64 (b.a:Int),.int .i64 (b.b:Int),.int .i64 b.s]=(R.set (aI t (bs.take j)).length b).map aA:=by rw[List.map_set];rfl
    have MF:∃y,(R.map aA)[(aI t (bs.take j)).length]? =some (aA y):=⟨R[(aI t (bs.take j)).length]'(by omega),by rw[List.getElem?_map,List.getElem?_eq_getElem (by omega)];rfl⟩
    obtain⟨y,MF⟩:=MF
    rw[aA]at MF
    (try((repeat(revert hN;revert N;apply Pn.out));refine wk (tw @b0 (tw @b1 (tw @b5 (tw @b6 (tw @bg (tw @hd (tw @SJ (tw @hwc (tw @TQ (tw @dQ (tw @MF (tw @kr (tw @UD @TD))))))))))))) ?_;(repeat(refine Pn.mk ?_;intro N hN))))
    refine⟨_,?_,j+1,_,rfl,sd @SJ,sd (tw @hwc @To),sd @dQ,Tp,by omega,by(try dsimp only);omega,fun x hx Al=>?_⟩
    ·omega
    ·have PT:=dz (i:=x) (n:=st_b.next) (by omega)
     have:=lW x hx Al
     simp only[go_sem, ↓reduceIte,Nat.reduceEqDiff,Nat.reduceAdd,Nat.reduceSub,Nat.reduceLeDiff,reduceCtorEq,PT,this,Al]
  ·have gG:j=bs.length:=by omega
   subst gG
   have tW:=hD.pre
   rw[List.take_length]at b5 dP tW
   have TQ:((aI t bs).length:Int)<=(bs.length:Int):=by omega
   have Sj:(aI t bs).length<=bs.length:=by omega
   have qq:(aI t bs).length+(bs.length-(aI t bs).length)=bs.length:=by omega
   have Bp:=nh t bs
   (try((repeat(revert hN;revert N;apply Pn.out));refine wk (tw @b0 (tw @b1 (tw @b5 (tw @b6 (tw @bg (tw @hj (tw @TD (tw @TQ (tw @Sj (tw @qq (tw @Nat.le_refl (tw @Nat.sub_zero (tw @Int.le_refl @kr))))))))))))) ?_;(repeat(refine Pn.mk ?_;intro N hN))))
   refine ft (.inl rfl) (vs:=[.own o 0 (aI t bs).length]) (sd @Nat.zero_add) ⟨_,rfl,by simp only[go_sem, ↓reduceIte,Nat.reduceEqDiff,Nat.reduceAdd,Nat.reduceSub,Nat.reduceLeDiff,reduceCtorEq];rfl,?_,?_,by(try dsimp only);omega,fun x hx Al=>?_⟩
   ·have hm:List.take (aI t bs).length (List.map aA R)=(aI t bs).map aA:=by rw[<-List.map_take,tW]
    rw[hm,List.append_assoc,List.take_append_of_le_length (by simp),List.take_of_length_le (by simp)]
   ·have hm:List.take (aI t bs).length (List.map aA R)=(aI t bs).map aA:=by rw[<-List.map_take,tW]
    rw[hm]
    simp only[List.length_append,List.length_map]
    omega
   ·have Rc:(x=o)=False:=by simp only[eq_iff_iff,iff_false];exact Al
    have:=lW x hx Rc
    simp only[go_sem, ↓reduceIte,Nat.reduceEqDiff,Nat.reduceAdd,Nat.reduceSub,Nat.reduceLeDiff,reduceCtorEq,Rc,this]
 ·have hn:=C4 h0
  have dH:=tG (t:=t) (bs:=bs) fun b hb=>by simpa using hn b hb
  have hd:decide (j5 (fun b:PB=>decide (b.s<t)) bs= -1)=true:=decide_eq_true (by
   unfold j5 at h0 ⊢
   split
   ·rename_i h;rw[if_pos h]at h0;omega
   ·rfl)
  (try((repeat(revert hN;revert N;apply Pn.out));refine wk @hd ?_;(repeat(refine Pn.mk ?_;intro N hN))))
  refine ft (.inl rfl) (vs:=[.own o 0 bs.length]) (sd @Nat.zero_add) ⟨bs.map aA,by rw[dH];rfl,sd @ho,by rw[dH,List.take_of_length_le (by simp)],by rw[dH];simp,by(try dsimp only);omega,fun x _ _=>rfl⟩
end Go.Proofs.YtgoelphibofcmaaGreat.V

namespace Go.Proofs.YtgoelphibofcmaaGreat.V
open Go.RowKit
attribute [local irreducible] eb wpOps gj Call
attribute [local go_sem] aJ fM eP fZ fY cL upd cu K.av cN AV.cells AV.cell rowOf rowsOf part ld rowAt bI bW dD ee gT bL dc ev fU eY dr ej da cZ dO dR bR aX cR bQ cV cU eh ek ei cQ bV db ef bP aP cX cE gS bw cJ bU aW dx bj dE AV.undef bD bF dV ec dI dS cF eu eB cD ep eo cW cY List.getD_cons_zero List.getD_cons_succ List.getD_nil List.all_cons List.all_nil Bool.and_true Bool.true_and Bool.and_self Bool.not_true Bool.not_false Option.map_some Option.map_none Option.bind_some Option.bind_none List.length_cons List.length_nil List.take_succ_cons List.take_zero List.take_nil List.drop_succ_cons List.drop_zero List.drop_nil List.head?_cons List.map_cons List.map_nil List.getElem?_cons_zero List.getElem?_cons_succ List.cons_append List.nil_append List.append_nil List.length_map List.set_cons_zero List.set_cons_succ Nat.reduceMul eq_self Int.toNat_natCast Int.natCast_nonneg and_self true_and and_true decide_true decide_false Bool.false_eq_true Nat.zero_add Nat.add_zero List.contains_cons List.contains_nil Bool.or_false Bool.false_or beq_self_eq_true Nat.reduceBEq ne_eq not_true_eq_false not_false_eq_true Id.mk.injEq false_and and_false Nat.reduceLT Int.reduceLE Int.reduceLT Int.reduceToNat Int.reduceNeg Int.reduceAdd Nat.le_refl List.length_append beq_true beq_false Bool.not_eq_eq_eq_not or_false false_or dM aj aq aH bd bz ck aU bf aT aZ cP bH
def zR (bs:List PB):AV:=if bs=[]then .cr else .sl (bs.map aA)
theorem L7:zR []=.cr:=rfl
theorem zS {bs:List PB} (h:0<bs.length):zR bs=.sl (bs.map aA):=by
 unfold zR
 rw[if_neg (by rintro rfl;simp at h)]
theorem xb (cnt:Nat) (zi:1<=cnt) (hn:cnt<=1048576) (bs:List PB) (hb:∀b∈bs,b.a<cnt/\b.b<cnt) (hp:0<bs.length) (nH:bs.length<=1048576) (t:Int):ar Tryz.prog 221 [.int .i64 cnt,.sl (bs.map aA),.int .i64 t] (.iF [.int .i64 (leads cnt (eA (aI t bs))).length,zR (du (eA (aI t bs)) bs)]):=by
 refine ar.body eJ rfl fun hl n0=>?_
 clear hl
 (try((repeat(revert hN;revert N;apply Pn.out));refine wk @Nat.zero_add ?_;(repeat(refine Pn.mk ?_;intro N hN))))
 refine .inr (aL _ _ _ _ _ (fun r σ1 hq=>?_) (H7 bs hp nH _))
 obtain⟨o,rfl,ho,Ld,Le,QL⟩:=hq
 (try dsimp only at ho Ld Le QL)
 refine hN _ _ ?_
 clear hN N
 (try((repeat(revert hN;revert N;apply Pn.out));refine wk @Nat.zero_add ?_;(repeat(refine Pn.mk ?_;intro N hN))))
 refine .inr (aL _ _ _ _ _ (fun r σ2 hq=>?_) (FX bs t nH o ⟨221000000,n0⟩ _ ho (by rw[QL _ (by(try dsimp only);omega)];simp only[go_sem, ↓reduceIte,Nat.reduceEqDiff,Nat.reduceAdd,Nat.reduceSub,Nat.reduceLeDiff,reduceCtorEq]) (by(try dsimp only);omega) (by(try dsimp only);omega) (by rintro rfl;simp only at Ld;omega)))
 obtain⟨rows,rfl,e9,hrt,si,mL,IE⟩:=hq
 (try dsimp only at mL IE)
 refine hN _ _ ?_
 clear hN N
 have Ht:=vg cnt zi hn (aI t bs) (fun b h=>hb b (wE h)) (by have:=nh t bs;omega)
 have hL:=tx (aI t bs)
 have hz:∀x,cK (dM σ2.get) 6 [.int .i64 x,.own o 0 (aI t bs).length]=some [.int .i64 x,.sl ((aI t bs).map aA)]:=fun x=>by
  have:V.fz (dM σ2.get) 6 (.own o 0 (aI t bs).length)=some (.sl ((aI t bs).map aA)):=by
   rw[ig];simp only[dM,e9,Option.map_some,if_true]
   rw[if_pos (by omega),List.drop_zero,hrt,qk fun b=>y4 _ 4 b];rfl
  simp only[aj,aq,aH,this,Option.map_some]
 (try((repeat(revert hN;revert N;apply Pn.out));refine wk @Nat.zero_add ?_;(repeat(refine Pn.mk ?_;intro N hN))))
 refine .inl ⟨_,ar.x Ht (hz _),?_⟩
 refine hN _ _ ?_
 clear hN N
 generalize eA (aI t bs)=L at *
 have sf:((fq cnt L).map Ad).length=(leads cnt L).length:=by simp[fq]
 have Sv:=jF cnt L
 have jA:(0:Int)<=(cnt:Int):=by omega
 have pE:(cnt:Int)<=((16777216:Nat):Int):=by omega
 have gO:List.replicate cnt [AV.int .i64 0]=dB (cI cnt L 0 0) cnt:=by rw[wK,oG]
 (try((repeat(revert hN;revert N;apply Pn.out));refine wk (tw @jA (tw @pE (tw @Int.le_refl (tw @sf @gO)))) ?_;(repeat(refine Pn.mk ?_;intro N hN))))
 refine aO (fun n env st=>∃i:Nat,n=((leads cnt L).length)-i/\i<=((leads cnt L).length)/\env 27=.int .i64 (i:Int)/\st.get ⟨221002001,σ2.next+1⟩=some ⟨true,1,dB (cI cnt L i 0) cnt⟩/\(σ2.next+1<st.next)) ((leads cnt L).length) ⟨0,by omega,by omega,sl (tw @gO @sf),sl (tw @gO @sf),(by(try dsimp only);omega)⟩ ?_
 rintro n_c env_c st_c ⟨i,rfl,cle,c27,cg0,cI0⟩ iG
 have c1:=iG 1 (by kernel_rfl);have c8:=iG 8 (by kernel_rfl);have c9:=iG 9 (by kernel_rfl);have w6:=iG 25 (by kernel_rfl);have w7:=iG 26 (by kernel_rfl)
 simp only[go_sem, ↓reduceIte,Nat.reduceEqDiff,Nat.reduceAdd,Nat.reduceSub,Nat.reduceLeDiff,reduceCtorEq,gO,sf]at c1 c8 c9 w6 w7
 clear iG
 by_cases hi:(i:Int)<((leads cnt L).length:Int)
 ·have gx:∀{e:Env} {gg:Rows} {nx:Nat},(e 27=.int .i64 (IntKind.i64.wrap ((i:Int)+1)))->(gg ⟨221002001,σ2.next+1⟩=some ⟨true,1,dB (cI cnt L (i+1) 0) cnt⟩)->(σ2.next+1<nx)->∃m0,m0<((leads cnt L).length)-i/\∃i:Nat,m0=((leads cnt L).length)-i/\i<=((leads cnt L).length)/\e 27=.int .i64 (i:Int)/\gg ⟨221002001,σ2.next+1⟩=some ⟨true,1,dB (cI cnt L i 0) cnt⟩/\(σ2.next+1<nx):=fun x1 x2 x3=>⟨_,by omega,i+1,rfl,by omega,(by rw[x1,az (by omega)]),x2,x3⟩
  have fI:i<(leads cnt L).length:=by omega
  have kh:((fq cnt L).map Ad)[i]? =some (Ad (members cnt L (leads cnt L)[i])):=by simp[fq,fI]
  have se:(leads cnt L).getD i 0=(leads cnt L)[i]:=by simp[List.getD_eq_getElem?_getD,fI]
  have Bs:∀m,cI cnt L i m=fun x=>if bJ L x<i then bJ L x else if x∈(members cnt L (leads cnt L)[i]).take m then i else 0:=fun m=>by unfold cI;rw[se]
  have rC:=fun x (hx:x<cnt)=>sQ hL (n:=cnt) (k:=x) (i:=i) hx fI
  have lN:(members cnt L (leads cnt L)[i]).Nodup:=List.nodup_range.filter _
  have Oe:∀x∈members cnt L (leads cnt L)[i],x<cnt:=fun x hx=>(ly.1 hx).1
  have hMc:(members cnt L (leads cnt L)[i]).length<=cnt:=by
   have:=List.length_filter_le (fun k=>L k==(leads cnt L)[i]) (List.range cnt)
   simpa[members]using this
  generalize members cnt L (leads cnt L)[i]=M at *
  have Cw:(M.map eN).length=M.length:=by simp
  (try((repeat(revert hN;revert N;apply Pn.out));refine wk (tw @c27 (tw @cg0 (tw @c1 (tw @c8 (tw @c9 (tw @w6 (tw @w7 (tw @hi (tw @sf (tw @kh (tw @Ad.eq_1 @Cw))))))))))) ?_;(repeat(refine Pn.mk ?_;intro N hN))))
  refine aO (fun n env st=>∃m:Nat,n=(M.length)-m/\m<=(M.length)/\env 34=.int .i64 (m:Int)/\st.get ⟨221002001,σ2.next+1⟩=some ⟨true,1,dB (cI cnt L i m) cnt⟩/\(σ2.next+1<st.next)) (M.length) ⟨0,by omega,by omega,sl (tw @c27 (tw @cg0 (tw @c1 (tw @c8 (tw @c9 (tw @w6 (tw @w7 @Cw))))))),sl (tw @c27 (tw @cg0 (tw @c1 (tw @c8 (tw @c9 (tw @w6 (tw @w7 @Cw))))))),(by(try dsimp only);omega)⟩ ?_
  rintro n_d env_d st_d ⟨m,rfl,dle,d34,dg0,dI0⟩ dfr
  have d1:=dfr 1 (by kernel_rfl);have d8:=dfr 8 (by kernel_rfl);have d9:=dfr 9 (by kernel_rfl);have d10:=dfr 10 (by kernel_rfl);have d25:=dfr 25 (by kernel_rfl);have d26:=dfr 26 (by kernel_rfl);have d27:=dfr 27 (by kernel_rfl);have d32:=dfr 32 (by kernel_rfl);have d33:=dfr 33 (by kernel_rfl)
  simp only[go_sem, ↓reduceIte,Nat.reduceEqDiff,Nat.reduceAdd,Nat.reduceSub,Nat.reduceLeDiff,reduceCtorEq,c27,cg0,c1,c8,c9,w6,w7,Cw]at d1 d8 d9 d10 d25 d26 d27 d32 d33
  clear dfr
  have tl:=fW (cI cnt L i m) cnt
  by_cases hm:(m:Int)<(M.length:Int)
  ·have tC:∀{e:Env} {gg:Rows} {nx:Nat},(e 34=.int .i64 (IntKind.i64.wrap ((m:Int)+1)))->(gg ⟨221002001,σ2.next+1⟩=some ⟨true,1,dB (cI cnt L i (m+1)) cnt⟩)->(σ2.next+1<nx)->∃m0,m0<(M.length)-m/\∃m:Nat,m0=(M.length)-m/\m<=(M.length)/\e 34=.int .i64 (m:Int)/\gg ⟨221002001,σ2.next+1⟩=some ⟨true,1,dB (cI cnt L i m) cnt⟩/\(σ2.next+1<nx):=fun x1 x2 x3=>⟨_,by omega,m+1,rfl,by omega,(by rw[x1,az (by omega)]),x2,x3⟩
   have zh:m<M.length:=by omega
   have sg:(M.map eN)[m]? =some (eN M[m]):=by simp[zh]
   have vz:=Oe _ (List.getElem_mem zh)
   have CC:(M[m]:Int)<(cnt:Int):=by omega
   have CB:=fm (f:=cI cnt L i m) vz
   have dQ:(dB (cI cnt L i m) cnt).set M[m] (eN i)=dB (cI cnt L i (m+1)) cnt:=pg vz (by
    have h1:=(rC _ vz).1 (List.getElem_mem zh)
    rw[Bs]
    simp only[]
    rw[if_neg (by omega),if_pos (by rw[List.take_succ_eq_append_getElem zh];exact List.mem_append_right _ (List.mem_singleton.2 rfl))]) fun x hx gU=>by
    rw[Bs,Bs]
    simp only[]
    rw[List.take_succ_eq_append_getElem zh]
    simp only[List.mem_append,List.mem_singleton,gU,or_false]
   rw[eN]at dQ CB
   generalize M[m]=xm at *
   (try((repeat(revert hN;revert N;apply Pn.out));refine wk (tw @d34 (tw @dg0 (tw @d1 (tw @d8 (tw @d9 (tw @d10 (tw @d25 (tw @d26 (tw @d27 (tw @d32 (tw @d33 (tw @hm (tw @hi (tw @sg (tw @Cw (tw @CC (tw @CB (tw @tl (tw @dQ @eN.eq_1))))))))))))))))))) ?_;(repeat(refine Pn.mk ?_;intro N hN))))
   refine tC ?_ ?_ (by(try dsimp only);omega)
   all_goals simp only[go_sem, ↓reduceIte,Nat.reduceEqDiff,Nat.reduceAdd,Nat.reduceSub,Nat.reduceLeDiff,reduceCtorEq,d34,dg0,d1,d8,d9,d10,d25,d26,d27,d32,d33,dQ]
  ·have lY:m=M.length:=by omega
   subst lY
   have o3:dB (cI cnt L i M.length) cnt=dB (cI cnt L (i+1) 0) cnt:=gN fun x hx=>by
    rw[Bs,List.take_length]
    simp only[cI,List.take_zero,List.not_mem_nil,if_false]
    have h1:=rC x hx
    by_cases h2:bJ L x<i
    ·rw[if_pos h2,if_pos (by omega)]
    ·rw[if_neg h2]
     by_cases h3:x∈M
     ·rw[if_pos h3,if_pos (by have:=h1.1 h3;omega),h1.1 h3]
     ·rw[if_neg h3,if_neg fun h4=>h3 (h1.2 (by omega))]
   (try((repeat(revert hN;revert N;apply Pn.out));refine wk (tw @d34 (tw @dg0 (tw @d1 (tw @d8 (tw @d9 (tw @d10 (tw @d25 (tw @d26 (tw @d27 (tw @d32 (tw @d33 (tw @hm (tw @hi (tw @sf @Cw)))))))))))))) ?_;(repeat(refine Pn.mk ?_;intro N hN))))
   refine gx ?_ ?_ (by(try dsimp only);omega)
   all_goals simp only[go_sem, ↓reduceIte,Nat.reduceEqDiff,Nat.reduceAdd,Nat.reduceSub,Nat.reduceLeDiff,reduceCtorEq,c27,cg0,c1,c8,c9,w6,w7,d34,dg0,d1,d8,d9,d10,d25,d26,d27,d32,d33,o3]
 have nz:i=(leads cnt L).length:=by omega
 subst nz
 have xf:dB (cI cnt L (leads cnt L).length 0) cnt=dB (bJ L) cnt:=gN fun x hx=>by rw[cI,if_pos (jW hL hx)]
 rw[xf]at cg0
 have tl:=fW (bJ L) cnt
 have Sg:(bs.map aA).length=bs.length:=by simp
 (try((repeat(revert hN;revert N;apply Pn.out));refine wk (tw @c27 (tw @cg0 (tw @c1 (tw @c8 (tw @c9 (tw @w6 (tw @w7 (tw @hi (tw @sf @Sg))))))))) ?_;(repeat(refine Pn.mk ?_;intro N hN))))
 have Sj:σ2.next+1<st_c.next:=cI0
 refine aO (fun n env st=>∃j:Nat,n=(bs.length)-j/\j<=(bs.length)/\env 46=.int .i64 (j:Int)/\st.get ⟨221002001,σ2.next+1⟩=some ⟨true,1,dB (bJ L) cnt⟩/\(st_c.next<=st.next/\((du L (bs.take j)=[]/\env 14=.cr)∨∃p:Id,env 14=.own p 0 (du L (bs.take j)).length/\st.get p=some ⟨true,3,(du L (bs.take j)).map aA⟩/\st_c.next<=p.bm/\p.bm<st.next/\0<(du L (bs.take j)).length))) (bs.length) ⟨0,by omega,by omega,sl (tw @c27 (tw @cg0 (tw @c1 (tw @c8 (tw @c9 (tw @w6 (tw @w7 @Sg))))))),sl (tw @c27 (tw @cg0 (tw @c1 (tw @c8 (tw @c9 (tw @w6 (tw @w7 @Sg))))))),⟨by(try dsimp only);omega,.inl ⟨rfl,by(simp only[go_sem, ↓reduceIte,Nat.reduceEqDiff,Nat.reduceAdd,Nat.reduceSub,Nat.reduceLeDiff,reduceCtorEq])⟩⟩⟩ ?_
 rintro n_f env_f st_f ⟨j,rfl,fle,f46,fg0,fI0⟩ ffr
 have f1:=ffr 1 (by kernel_rfl);have f8:=ffr 8 (by kernel_rfl);have f9:=ffr 9 (by kernel_rfl);have f44:=ffr 44 (by kernel_rfl);have f45:=ffr 45 (by kernel_rfl)
 simp only[go_sem, ↓reduceIte,Nat.reduceEqDiff,Nat.reduceAdd,Nat.reduceSub,Nat.reduceLeDiff,reduceCtorEq,c27,cg0,c1,c8,c9,w6,w7,Sg]at f1 f8 f9 f44 f45
 clear ffr
 obtain⟨PA,fO⟩:=fI0
 have Gl:=dz (i:=⟨221002001,σ2.next+1⟩) (n:=st_f.next) (by(try dsimp only);omega)
 have Bp:=(nf L (bs.take j)).1
 rw[List.length_take]at Bp
 by_cases hj:(j:Int)<(bs.length:Int)
 ·have rP:∀{e:Env} {gg:Rows} {nx:Nat},(e 46=.int .i64 (IntKind.i64.wrap ((j:Int)+1)))->(gg ⟨221002001,σ2.next+1⟩=some ⟨true,1,dB (bJ L) cnt⟩)->(st_c.next<=nx/\((du L (bs.take (j+1))=[]/\e 14=.cr)∨∃p:Id,e 14=.own p 0 (du L (bs.take (j+1))).length/\gg p=some ⟨true,3,(du L (bs.take (j+1))).map aA⟩/\st_c.next<=p.bm/\p.bm<nx/\0<(du L (bs.take (j+1))).length))->∃m0,m0<(bs.length)-j/\∃j:Nat,m0=(bs.length)-j/\j<=(bs.length)/\e 46=.int .i64 (j:Int)/\gg ⟨221002001,σ2.next+1⟩=some ⟨true,1,dB (bJ L) cnt⟩/\(st_c.next<=nx/\((du L (bs.take j)=[]/\e 14=.cr)∨∃p:Id,e 14=.own p 0 (du L (bs.take j)).length/\gg p=some ⟨true,3,(du L (bs.take j)).map aA⟩/\st_c.next<=p.bm/\p.bm<nx/\0<(du L (bs.take j)).length)):=fun x1 x2 x3=>⟨_,by omega,j+1,rfl,by omega,(by rw[x1,az (by omega)]),x2,x3⟩
  have ia:j<bs.length:=by omega
  have zf:(bs.map aA)[j]? =some (aA bs[j]):=by simp[ia]
  have KZ:=hb _ (List.getElem_mem ia)
  have hs:=zO L (bs.take j) bs[j]
  rw[<-List.take_succ_eq_append_getElem ia]at hs
  generalize bs[j]=b at *
  have hA:=fm (f:=bJ L) KZ.1
  have hB:=fm (f:=bJ L) KZ.2
  have gC:(b.a:Int)<(cnt:Int):=by omega
  have fo:(b.b:Int)<(cnt:Int):=by omega
  rw[eN]at hA hB
  have e1:(du L (bs.take j)).length+1<=16777216:=by omega
  have lY:((du L (bs.take j)).map aA).length=(du L (bs.take j)).length:=by simp
  by_cases he:bJ L b.a=bJ L b.b
  ·rw[if_pos he,List.append_nil]at hs
   have wR:decide ((bJ L b.a:Int)=(bJ L b.b:Int))=true:=decide_eq_true (by rw[he])
   (try((repeat(revert hN;revert N;apply Pn.out));refine wk (tw @f46 (tw @fg0 (tw @f1 (tw @f8 (tw @f9 (tw @f44 (tw @f45 (tw @hj (tw @zf (tw @hA (tw @hB (tw @gC (tw @fo (tw @tl (tw @wR (tw @Gl (tw @aA.eq_1 (tw @Bool.not_true @Bool.not_false)))))))))))))))))) ?_;(repeat(refine Pn.mk ?_;intro N hN))))
   refine rP ?_ ?_ (by(try dsimp only);exact⟨by omega,by
    rw[hs]
    rcases fO with⟨h1,h2⟩|⟨p,h1,h2,h3,h4,h5⟩
    ·exact .inl ⟨h1,sd @h2⟩
    ·have Aj:=dz h4
     exact .inr ⟨p,sd @h1,sd (tw @h2 @Aj),h3,by omega,h5⟩⟩)
   all_goals simp only[go_sem, ↓reduceIte,Nat.reduceEqDiff,Nat.reduceAdd,Nat.reduceSub,Nat.reduceLeDiff,reduceCtorEq,f46,fg0,f1,f8,f9,f44,f45,Gl]
  ·rw[if_neg he]at hs
   have wR:decide ((bJ L b.a:Int)=(bJ L b.b:Int))=false:=decide_eq_false fun h=>he (by omega)
   rcases fO with⟨h1,f14⟩|⟨p,f14,fg,Om,IL,hp3⟩
   ·rw[h1]at hs
    (try((repeat(revert hN;revert N;apply Pn.out));refine wk (tw @f46 (tw @fg0 (tw @f1 (tw @f8 (tw @f9 (tw @f44 (tw @f45 (tw @f14 (tw @hj (tw @zf (tw @hA (tw @hB (tw @gC (tw @fo (tw @tl (tw @wR (tw @Gl (tw @aA.eq_1 (tw @Bool.not_true @Bool.not_false))))))))))))))))))) ?_;(repeat(refine Pn.mk ?_;intro N hN))))
    refine rP ?_ ?_ (by(try dsimp only);exact⟨by omega,.inr ⟨⟨221017015,st_f.next+1+1+1⟩,by rw[hs];simp only[go_sem, ↓reduceIte,Nat.reduceEqDiff,Nat.reduceAdd,Nat.reduceSub,Nat.reduceLeDiff,reduceCtorEq,List.nil_append,List.length_cons,List.length_nil],by rw[hs];simp only[go_sem, ↓reduceIte,Nat.reduceEqDiff,Nat.reduceAdd,Nat.reduceSub,Nat.reduceLeDiff,reduceCtorEq,aA,List.nil_append,List.map_cons,List.map_nil],by(try dsimp only);omega,by(try dsimp only);omega,by rw[hs];simp⟩⟩)
    all_goals simp only[go_sem, ↓reduceIte,Nat.reduceEqDiff,Nat.reduceAdd,Nat.reduceSub,Nat.reduceLeDiff,reduceCtorEq,f46,fg0,f1,f8,f9,f44,f45,Gl]
   ·have x1:=dq (a:=⟨221002001,σ2.next+1⟩) (b:=p) (by(try dsimp only);omega)
    have Aj:=dz IL
    (try((repeat(revert hN;revert N;apply Pn.out));refine wk (tw @f46 (tw @fg0 (tw @f1 (tw @f8 (tw @f9 (tw @f44 (tw @f45 (tw @f14 (tw @fg (tw @hj (tw @zf (tw @hA (tw @hB (tw @gC (tw @fo (tw @tl (tw @wR (tw @x1 (tw @Aj (tw @Gl (tw @e1 (tw @lY (tw @aA.eq_1 (tw @Bool.not_true @Bool.not_false)))))))))))))))))))))))) ?_;(repeat(refine Pn.mk ?_;intro N hN))))
    refine rP ?_ ?_ (by(try dsimp only);exact⟨by omega,.inr ⟨⟨221017015,st_f.next+1+1+1⟩,by rw[hs,List.length_append];simp only[go_sem, ↓reduceIte,Nat.reduceEqDiff,Nat.reduceAdd,Nat.reduceSub,Nat.reduceLeDiff,reduceCtorEq,List.length_cons,List.length_nil],by rw[hs,List.map_append,List.map_cons,List.map_nil];simp only[go_sem, ↓reduceIte,Nat.reduceEqDiff,Nat.reduceAdd,Nat.reduceSub,Nat.reduceLeDiff,reduceCtorEq,aA],by(try dsimp only);omega,by(try dsimp only);omega,by rw[hs];simp⟩⟩)
    all_goals simp only[go_sem, ↓reduceIte,Nat.reduceEqDiff,Nat.reduceAdd,Nat.reduceSub,Nat.reduceLeDiff,reduceCtorEq,f46,fg0,f1,f8,f9,f44,f45,x1,Gl]
 ·have gG:j=bs.length:=by omega
  subst gG
  rw[List.take_length]at fO
  rcases fO with⟨h1,f14⟩|⟨p,f14,fg,Om,IL,hp3⟩
  ·(try((repeat(revert hN;revert N;apply Pn.out));refine wk (tw @f46 (tw @fg0 (tw @f1 (tw @f8 (tw @f9 (tw @f44 (tw @f45 (tw @f14 (tw @hj @sf))))))))) ?_;(repeat(refine Pn.mk ?_;intro N hN))))
   refine jn (.inl rfl) (r1:=.int .i64 ((leads cnt L).length:Int)) (sd @Nat.zero_add) (by simp only[go_sem, ↓reduceIte,Nat.reduceEqDiff,Nat.reduceAdd,Nat.reduceSub,Nat.reduceLeDiff,reduceCtorEq];rfl) ?_
   simp only[e8,bE,cw,eH,kE,h1,L7,Option.map_some]
  ·(try((repeat(revert hN;revert N;apply Pn.out));refine wk (tw @f46 (tw @fg0 (tw @f1 (tw @f8 (tw @f9 (tw @f44 (tw @f45 (tw @f14 (tw @hj @sf))))))))) ?_;(repeat(refine Pn.mk ?_;intro N hN))))
   refine jn (.inl rfl) (r1:=.int .i64 ((leads cnt L).length:Int)) (sd @Nat.zero_add) (by simp only[go_sem, ↓reduceIte,Nat.reduceEqDiff,Nat.reduceAdd,Nat.reduceSub,Nat.reduceLeDiff,reduceCtorEq];rfl) ?_
   have h1:gi st_f.get 5 (.own p 0 (du L bs).length)=some (.sl ((du L bs).map aA)):=fB (sz:=3) fg rfl fun b=>uh _ 3 b
   simp only[e8,bE,cw,eH,h1,zS hp3,Option.map_some]
theorem w9 (cnt:Nat) (zi:1<=cnt) (hn:cnt<=1048576) (t:Int):ar Tryz.prog 221 [.int .i64 cnt,.cr,.int .i64 t] (.iF [.int .i64 cnt,.cr]):=by
 refine ar.body eJ rfl fun hl n0=>?_
 clear hl
 have h1:ar Tryz.prog 242 [.cr] .cr:=by
  refine ar.body eJ rfl fun hl n0=>?_
  clear hl
  (try((repeat(revert hN;revert N;apply Pn.out));refine wk @Nat.zero_add ?_;(repeat(refine Pn.mk ?_;intro N hN))))
  exact wm (.inl rfl) (r0:=.cr) (sd @Nat.zero_add) (kE _ _)
 have h2:ar Tryz.prog 241 [.cr,.fn 243 [.dj [.int .i64 t]]] .cr:=by
  have Cz:=(x8 [] t (by simp)).cut mixed (.cr (.same _ .nil))
  refine ar.body eJ rfl fun hl n0=>?_
  clear hl
  (try((repeat(revert hN;revert N;apply Pn.out));refine wk @Nat.zero_add ?_;(repeat(refine Pn.mk ?_;intro N hN))))
  refine .inl ⟨_,ar.x Cz (by simp only[aj,aq,aU,cP,aT,List.all_cons,List.all_nil,AV.cell,Bool.and_true,if_true,Option.map_some]),?_⟩
  refine hN _ _ ?_
  clear hN N
  have hd:decide (j5 (fun b:PB=>decide (b.s<t)) []= -1)=true:=rfl
  (try((repeat(revert hN;revert N;apply Pn.out));refine wk @hd ?_;(repeat(refine Pn.mk ?_;intro N hN))))
  exact wm (.inl rfl) (r0:=.cr) (sd @Nat.zero_add) (kE _ _)
 have Ht:=(vg cnt zi hn [] (fun b h=>by cases h) (by simp)).cut mixed (.same _ (.cr .nil))
 (repeat(first|((repeat(revert hN;revert N;apply Pn.out));refine wk @Nat.zero_add ?_;(repeat(refine Pn.mk ?_;intro N hN)))|((try apply Or.inl);refine⟨_,ar.x (h1) (sd @Nat.zero_add),?_⟩;refine hN _ _ ?_;clear hN N)))
 refine .inl ⟨_,ar.x h2 ?_,?_⟩
 ·have:V.fz (dM (bI (fun _=>none) ⟨221000000,n0⟩ ⟨true,1,[[.int .i64 t]]⟩)) 5 (.ptr ⟨221000000,n0⟩ 0 0)=some (.dj [.int .i64 t]):=y6 (sz:=1) (rows:=[[.int .i64 t]]) (by simp[dM,bI]) rfl (by simp only[List.drop_zero,aj,aq,aH,Option.map_some])
  simp only[aj,aq,aU,cP,this,List.all_cons,List.all_nil,AV.cell,Bool.and_true,if_true,Option.map_some]
 refine hN _ _ ?_
 clear hN N
 have fo:eA ([]:List PB)=id:=rfl
 rw[fo]at Ht
 have hL:jx id:=fo▸tx ([]:List PB)
 have PI:(leads cnt id).length=cnt:=by rw[leads,List.filter_eq_self.2 (fun a _=>by simp)];simp
 generalize (id:Nat->Nat)=L at *
 have sf:((fq cnt L).map Ad).length=(leads cnt L).length:=by simp[fq]
 have Sv:=jF cnt L
 have jA:(0:Int)<=(cnt:Int):=by omega
 have pE:(cnt:Int)<=((16777216:Nat):Int):=by omega
 have gO:List.replicate cnt [AV.int .i64 0]=dB (cI cnt L 0 0) cnt:=by rw[wK,oG]
 (repeat(first|((repeat(revert hN;revert N;apply Pn.out));refine wk (tw @jA (tw @pE (tw @Int.le_refl (tw @sf @gO)))) ?_;(repeat(refine Pn.mk ?_;intro N hN)))|((try apply Or.inl);refine⟨_,ar.x (Ht) (sd (tw @jA (tw @pE (tw @Int.le_refl (tw @sf @gO))))),?_⟩;refine hN _ _ ?_;clear hN N)))
 refine aO (fun n env st=>∃i:Nat,n=((leads cnt L).length)-i/\i<=((leads cnt L).length)/\env 27=.int .i64 (i:Int)/\st.get ⟨221002001,n0+1+1⟩=some ⟨true,1,dB (cI cnt L i 0) cnt⟩/\(n0+1+1<st.next)) ((leads cnt L).length) ⟨0,by omega,by omega,sl (tw @gO @sf),sl (tw @gO @sf),(by(try dsimp only);omega)⟩ ?_
 rintro n_c env_c st_c ⟨i,rfl,cle,c27,cg0,cI0⟩ iG
 have c1:=iG 1 (by kernel_rfl);have c8:=iG 8 (by kernel_rfl);have c9:=iG 9 (by kernel_rfl);have w6:=iG 25 (by kernel_rfl);have w7:=iG 26 (by kernel_rfl)
 simp only[go_sem, ↓reduceIte,Nat.reduceEqDiff,Nat.reduceAdd,Nat.reduceSub,Nat.reduceLeDiff,reduceCtorEq,gO,sf]at c1 c8 c9 w6 w7
 clear iG
 by_cases hi:(i:Int)<((leads cnt L).length:Int)
 ·have gx:∀{e:Env} {gg:Rows} {nx:Nat},(e 27=.int .i64 (IntKind.i64.wrap ((i:Int)+1)))->(gg ⟨221002001,n0+1+1⟩=some ⟨true,1,dB (cI cnt L (i+1) 0) cnt⟩)->(n0+1+1<nx)->∃m0,m0<((leads cnt L).length)-i/\∃i:Nat,m0=((leads cnt L).length)-i/\i<=((leads cnt L).length)/\e 27=.int .i64 (i:Int)/\gg ⟨221002001,n0+1+1⟩=some ⟨true,1,dB (cI cnt L i 0) cnt⟩/\(n0+1+1<nx):=fun x1 x2 x3=>⟨_,by omega,i+1,rfl,by omega,(by rw[x1,az (by omega)]),x2,x3⟩
  have fI:i<(leads cnt L).length:=by omega
  have kh:((fq cnt L).map Ad)[i]? =some (Ad (members cnt L (leads cnt L)[i])):=by simp[fq,fI]
  have se:(leads cnt L).getD i 0=(leads cnt L)[i]:=by simp[List.getD_eq_getElem?_getD,fI]
  have Bs:∀m,cI cnt L i m=fun x=>if bJ L x<i then bJ L x else if x∈(members cnt L (leads cnt L)[i]).take m then i else 0:=fun m=>by unfold cI;rw[se]
  have rC:=fun x (hx:x<cnt)=>sQ hL (n:=cnt) (k:=x) (i:=i) hx fI
  have lN:(members cnt L (leads cnt L)[i]).Nodup:=List.nodup_range.filter _
  have Oe:∀x∈members cnt L (leads cnt L)[i],x<cnt:=fun x hx=>(ly.1 hx).1
  have hMc:(members cnt L (leads cnt L)[i]).length<=cnt:=by
   have:=List.length_filter_le (fun k=>L k==(leads cnt L)[i]) (List.range cnt)
   simpa[members]using this
  generalize members cnt L (leads cnt L)[i]=M at *
  have Cw:(M.map eN).length=M.length:=by simp
  (try((repeat(revert hN;revert N;apply Pn.out));refine wk (tw @c27 (tw @cg0 (tw @c1 (tw @c8 (tw @c9 (tw @w6 (tw @w7 (tw @hi (tw @sf (tw @kh (tw @Ad.eq_1 @Cw))))))))))) ?_;(repeat(refine Pn.mk ?_;intro N hN))))
  refine aO (fun n env st=>∃m:Nat,n=(M.length)-m/\m<=(M.length)/\env 34=.int .i64 (m:Int)/\st.get ⟨221002001,n0+1+1⟩=some ⟨true,1,dB (cI cnt L i m) cnt⟩/\(n0+1+1<st.next)) (M.length) ⟨0,by omega,by omega,sl (tw @c27 (tw @cg0 (tw @c1 (tw @c8 (tw @c9 (tw @w6 (tw @w7 @Cw))))))),sl (tw @c27 (tw @cg0 (tw @c1 (tw @c8 (tw @c9 (tw @w6 (tw @w7 @Cw))))))),(by(try dsimp only);omega)⟩ ?_
  rintro n_d env_d st_d ⟨m,rfl,dle,d34,dg0,dI0⟩ dfr
  have d1:=dfr 1 (by kernel_rfl);have d8:=dfr 8 (by kernel_rfl);have d9:=dfr 9 (by kernel_rfl);have d10:=dfr 10 (by kernel_rfl);have d25:=dfr 25 (by kernel_rfl);have d26:=dfr 26 (by kernel_rfl);have d27:=dfr 27 (by kernel_rfl);have d32:=dfr 32 (by kernel_rfl);have d33:=dfr 33 (by kernel_rfl)
  simp only[go_sem, ↓reduceIte,Nat.reduceEqDiff,Nat.reduceAdd,Nat.reduceSub,Nat.reduceLeDiff,reduceCtorEq,c27,cg0,c1,c8,c9,w6,w7,Cw]at d1 d8 d9 d10 d25 d26 d27 d32 d33
  clear dfr
  have tl:=fW (cI cnt L i m) cnt
  by_cases hm:(m:Int)<(M.length:Int)
  ·have tC:∀{e:Env} {gg:Rows} {nx:Nat},(e 34=.int .i64 (IntKind.i64.wrap ((m:Int)+1)))->(gg ⟨221002001,n0+1+1⟩=some ⟨true,1,dB (cI cnt L i (m+1)) cnt⟩)->(n0+1+1<nx)->∃m0,m0<(M.length)-m/\∃m:Nat,m0=(M.length)-m/\m<=(M.length)/\e 34=.int .i64 (m:Int)/\gg ⟨221002001,n0+1+1⟩=some ⟨true,1,dB (cI cnt L i m) cnt⟩/\(n0+1+1<nx):=fun x1 x2 x3=>⟨_,by omega,m+1,rfl,by omega,(by rw[x1,az (by omega)]),x2,x3⟩
   have zh:m<M.length:=by omega
   have sg:(M.map eN)[m]? =some (eN M[m]):=by simp[zh]
   have vz:=Oe _ (List.getElem_mem zh)
   have CC:(M[m]:Int)<(cnt:Int):=by omega
   have CB:=fm (f:=cI cnt L i m) vz
   have dQ:(dB (cI cnt L i m) cnt).set M[m] (eN i)=dB (cI cnt L i (m+1)) cnt:=pg vz (by
    have h1:=(rC _ vz).1 (List.getElem_mem zh)
    rw[Bs]
    simp only[]
    rw[if_neg (by omega),if_pos (by rw[List.take_succ_eq_append_getElem zh];exact List.mem_append_right _ (List.mem_singleton.2 rfl))]) fun x hx gU=>by
    rw[Bs,Bs]
    simp only[]
    rw[List.take_succ_eq_append_getElem zh]
    simp only[List.mem_append,List.mem_singleton,gU,or_false]
   rw[eN]at dQ CB
   generalize M[m]=xm at *
   (try((repeat(revert hN;revert N;apply Pn.out));refine wk (tw @d34 (tw @dg0 (tw @d1 (tw @d8 (tw @d9 (tw @d10 (tw @d25 (tw @d26 (tw @d27 (tw @d32 (tw @d33 (tw @hm (tw @hi (tw @sg (tw @Cw (tw @CC (tw @CB (tw @tl (tw @dQ @eN.eq_1))))))))))))))))))) ?_;(repeat(refine Pn.mk ?_;intro N hN))))
   refine tC ?_ ?_ (by(try dsimp only);omega)
   all_goals simp only[go_sem, ↓reduceIte,Nat.reduceEqDiff,Nat.reduceAdd,Nat.reduceSub,Nat.reduceLeDiff,reduceCtorEq,d34,dg0,d1,d8,d9,d10,d25,d26,d27,d32,d33,dQ]
  ·have lY:m=M.length:=by omega
   subst lY
   have o3:dB (cI cnt L i M.length) cnt=dB (cI cnt L (i+1) 0) cnt:=gN fun x hx=>by
    rw[Bs,List.take_length]
    simp only[cI,List.take_zero,List.not_mem_nil,if_false]
    have h1:=rC x hx
    by_cases h2:bJ L x<i
    ·rw[if_pos h2,if_pos (by omega)]
    ·rw[if_neg h2]
     by_cases h3:x∈M
     ·rw[if_pos h3,if_pos (by have:=h1.1 h3;omega),h1.1 h3]
     ·rw[if_neg h3,if_neg fun h4=>h3 (h1.2 (by omega))]
   (try((repeat(revert hN;revert N;apply Pn.out));refine wk (tw @d34 (tw @dg0 (tw @d1 (tw @d8 (tw @d9 (tw @d10 (tw @d25 (tw @d26 (tw @d27 (tw @d32 (tw @d33 (tw @hm (tw @hi (tw @sf @Cw)))))))))))))) ?_;(repeat(refine Pn.mk ?_;intro N hN))))
   refine gx ?_ ?_ (by(try dsimp only);omega)
   all_goals simp only[go_sem, ↓reduceIte,Nat.reduceEqDiff,Nat.reduceAdd,Nat.reduceSub,Nat.reduceLeDiff,reduceCtorEq,c27,cg0,c1,c8,c9,w6,w7,d34,dg0,d1,d8,d9,d10,d25,d26,d27,d32,d33,o3]
 have nz:i=(leads cnt L).length:=by omega
 subst nz
 have xf:dB (cI cnt L (leads cnt L).length 0) cnt=dB (bJ L) cnt:=gN fun x hx=>by rw[cI,if_pos (jW hL hx)]
 rw[xf]at cg0
 have tl:=fW (bJ L) cnt
 (try((repeat(revert hN;revert N;apply Pn.out));refine wk (tw @c27 (tw @cg0 (tw @c1 (tw @c8 (tw @c9 (tw @w6 (tw @w7 (tw @hi @sf)))))))) ?_;(repeat(refine Pn.mk ?_;intro N hN))))
 refine aO (fun n env st=>∃j:Nat,n=(0)-j/\j<=(0)/\env 46=.int .i64 (j:Int)/\env 14=.cr) (0) ⟨0,by omega,by omega,sl (tw @c27 (tw @cg0 (tw @c1 (tw @c8 (tw @c9 (tw @w6 @w7)))))),sl (tw @c27 (tw @cg0 (tw @c1 (tw @c8 (tw @c9 (tw @w6 @w7))))))⟩ ?_
 rintro n_f env_f st_f ⟨j,rfl,fle,f46,f14⟩ ffr
 have f8:=ffr 8 (by kernel_rfl);have f44:=ffr 44 (by kernel_rfl);have f45:=ffr 45 (by kernel_rfl)
 simp only[go_sem, ↓reduceIte,Nat.reduceEqDiff,Nat.reduceAdd,Nat.reduceSub,Nat.reduceLeDiff,reduceCtorEq,c27,cg0,c1,c8,c9,w6,w7]at f8 f44 f45
 clear ffr
 have hj:¬(j:Int)<((0:Nat):Int):=by omega
 (try((repeat(revert hN;revert N;apply Pn.out));refine wk (tw @f46 (tw @f14 (tw @f8 (tw @f44 (tw @f45 (tw @hj @sf)))))) ?_;(repeat(refine Pn.mk ?_;intro N hN))))
 refine jn (.inl rfl) (r1:=.int .i64 ((leads cnt L).length:Int)) (r2:=.cr) (sd @Nat.zero_add) (sd @Nat.zero_add) ?_
 simp only[e8,bE,cw,eH,kE,PI,Option.map_some]
theorem yW (cnt:Nat) (zi:1<=cnt) (hn:cnt<=1048576) (bs:List PB) (hb:∀b∈bs,b.a<cnt/\b.b<cnt) (nH:bs.length<=1048576) (t:Int):ar Tryz.prog 221 [.int .i64 cnt,zR bs,.int .i64 t] (.iF [.int .i64 (leads cnt (eA (aI t bs))).length,zR (du (eA (aI t bs)) bs)]):=by
 cases bs with
 |nil=>
  have h:=w9 cnt zi hn t
  have PI:(leads cnt (eA (aI t []))).length=cnt:=by
   show(leads cnt id).length=cnt
   rw[leads,List.filter_eq_self.2 (fun a _=>by simp)];simp
  rw[PI]
  exact h
 |cons b r=>
  rw[zS (by simp)]
  exact xb cnt zi hn (b::r) hb (by simp) nH t
end Go.Proofs.YtgoelphibofcmaaGreat.V

namespace Go.Proofs.YtgoelphibofcmaaGreat.V
open Go.RowKit
attribute [local irreducible] eb wpOps gj Call
attribute [local go_sem] aJ fM eP fZ fY cL upd cu K.av cN AV.cells AV.cell rowOf rowsOf part ld rowAt bI bW dD ee gT bL dc ev fU eY dr ej da cZ dO dR bR aX cR bQ cV cU eh ek ei cQ bV db ef bP aP cX cE gS bw cJ bU aW dx bj dE AV.undef bD bF dV ec dI dS cF eu eB cD ep eo cW cY List.getD_cons_zero List.getD_cons_succ List.getD_nil List.all_cons List.all_nil Bool.and_true Bool.true_and Bool.and_self Bool.not_true Bool.not_false Option.map_some Option.map_none Option.bind_some Option.bind_none List.length_cons List.length_nil List.take_succ_cons List.take_zero List.take_nil List.drop_succ_cons List.drop_zero List.drop_nil List.head?_cons List.map_cons List.map_nil List.getElem?_cons_zero List.getElem?_cons_succ List.cons_append List.nil_append List.append_nil List.length_map List.set_cons_zero List.set_cons_succ Nat.reduceMul eq_self Int.toNat_natCast Int.natCast_nonneg and_self true_and and_true decide_true decide_false Bool.false_eq_true Nat.zero_add Nat.add_zero List.contains_cons List.contains_nil Bool.or_false Bool.false_or beq_self_eq_true Nat.reduceBEq ne_eq not_true_eq_false not_false_eq_true Id.mk.injEq false_and and_false Nat.reduceLT Int.reduceLE Int.reduceLT Int.reduceToNat Int.reduceNeg Int.reduceAdd Nat.le_refl List.length_append beq_true beq_false Bool.not_eq_eq_eq_not or_false false_or dM aj aq aH bd bz ck aU bf aT aZ cP bH
attribute [local go_sem] Fx
section
attribute [-go_sem] dD
theorem LM (n:Nat) (hn:n<=1048576):ar Tryz.prog 277 [.int .u64 1,.int .u64 n] (.iF [.int .u64 0,.int .u64 n]):=by
 refine ar.body eJ rfl fun hl n0=>?_
 clear hl
 have b1:(BitVec.ofInt 64 (n:Int)&&& BitVec.ofInt 64 4294967295).toNat=n:=by
  rw[BitVec.toNat_and]
  have e1:(BitVec.ofInt 64 (n:Int)).toNat=n:=by rw[BitVec.toNat_ofInt];omega
  have e2:(BitVec.ofInt 64 4294967295).toNat=2 ^ 32-1:=by decide
  rw[e1,e2]
  exact Nat.and_two_pow_sub_one_of_lt_two_pow (by omega)
 have zn:IntKind.u64.wrap (n:Int)=n:=by rw[IntKind.wrap_u64];omega
 have i1:dD .and .u64 (n:Int) 4294967295=some (.int .u64 n):=by
  show some (AV.int .u64 (IntKind.u64.wrap (((BitVec.ofInt 64 (n:Int)&&& BitVec.ofInt 64 4294967295).toNat:Nat):Int)))= _
  rw[b1,zn]
 have i2:dD .and .u64 1 4294967295=some (.int .u64 1):=rfl
 have i3:dD .and .u64 0 4294967295=some (.int .u64 0):=rfl
 have i4:dD .mul .u64 1 (n:Int)=some (.int .u64 n):=by simp only[dD,Int.one_mul,zn]
 have i5:dD .mul .u64 0 (n:Int)=some (.int .u64 0):=by simp only[dD,Int.zero_mul];rfl
 have i6:dD .mul .u64 1 0=some (.int .u64 0):=rfl
 have i7:dD .mul .u64 0 0=some (.int .u64 0):=rfl
 have i8:dD .add .u64 0 0=some (.int .u64 0):=rfl
 have a3:Int.fdiv 1 (2 ^ min 32 64)=0:=by decide
 have a4:Int.fdiv (n:Int) (2 ^ min 32 64)=0:=by
  rw[Int.fdiv_eq_ediv_of_nonneg _ (by decide)]
  have h32:(2:Int) ^ min 32 64=4294967296:=by decide
  exact Int.ediv_eq_zero_of_lt (by omega) (by omega)
 have z1:Int.fdiv 0 (2 ^ min 32 64)=0:=by decide
 (try((repeat(revert hN;revert N;apply Pn.out));refine wk (tw @i1 (tw @i2 (tw @i3 (tw @i4 (tw @i5 (tw @i6 (tw @i7 (tw @i8 (tw @a3 (tw @a4 @z1)))))))))) ?_;(repeat(refine Pn.mk ?_;intro N hN))))
 refine jn (.inl rfl) (r1:=.int .u64 0) (r2:=.int .u64 n) (sd @Nat.zero_add) (sd @Nat.zero_add) ?_
 simp only[e8,bE,cw,eH,Option.map_some]
end
theorem Rr (n:Nat) (hn:n<=1048576):ar Tryz.prog 275 [.int .u64 1,.int .u64 n] (.iF [.int .u64 0,.int .u64 n]):=by
 refine ar.body eJ rfl fun hl n0=>?_
 clear hl
 have h:=LM n hn
 (repeat(first|((repeat(revert hN;revert N;apply Pn.out));refine wk @Nat.zero_add ?_;(repeat(refine Pn.mk ?_;intro N hN)))|((try apply Or.inl);refine⟨_,ar.x (h) (sd @Nat.zero_add),?_⟩;refine hN _ _ ?_;clear hN N)))
 refine jn (.inl rfl) (r1:=.int .u64 0) (r2:=.int .u64 n) (sd @Nat.zero_add) (sd @Nat.zero_add) ?_
 simp only[e8,bE,cw,eH,Option.map_some]
theorem Jz (cnt:Nat) (zi:1<=cnt) (hn:cnt<=1048576) (v:Int) (x:Id) (σ:au) (hx:σ.get x=some ⟨true,1,[[.int .i64 v]]⟩) (UH:x.bm<σ.next):
  Call Tryz.prog 271 [.own x 0 1,.int .i64 cnt] σ fun r σ'=>∃o:Id,r=.own o 0 cnt/\σ'.get o=some ⟨true,1,List.replicate cnt [.int .i64 v]⟩/\σ.next<=o.bm/\o.bm<σ'.next/\∀i:Id,i.bm<σ.next->σ'.get i=σ.get i:=by
 refine eU eJ rfl fun hl=>?_
 clear hl
 have h:=Rr cnt hn
 have w1:IntKind.u64.wrap (cnt:Int)=cnt:=by rw[IntKind.wrap_u64];omega
 have w2:IntKind.i64.wrap (cnt:Int)=cnt:=J7 (by omega)
 have w0:IntKind.u64.wrap ((1:Nat):Int)=1:=by decide
 have g1:¬(cnt:Int)<0:=by omega
 have g2:¬(9223372036854775807:Int)<cnt:=by omega
 have jA:(0:Int)<=(cnt:Int):=by omega
 have pE:(cnt:Int)<=((16777216:Nat):Int):=by omega
 have PT:=dz UH
 have si:(List.replicate cnt [AV.int .i64 0]).length=cnt:=List.length_replicate
 have m1:min 1 cnt=1:=by omega
 (repeat(first|((repeat(revert hN;revert N;apply Pn.out));refine wk (tw @w0 (tw @w1 (tw @w2 (tw @g1 (tw @g2 (tw @jA (tw @pE (tw @Int.le_refl (tw @Nat.le_refl (tw @hx (tw @PT (tw @si @m1)))))))))))) ?_;(repeat(refine Pn.mk ?_;intro N hN)))|((try apply Or.inl);refine⟨_,ar.x (h) (sd (tw @w0 (tw @w1 (tw @w2 (tw @g1 (tw @g2 (tw @jA (tw @pE (tw @Int.le_refl (tw @Nat.le_refl (tw @hx (tw @PT (tw @si @m1))))))))))))),?_⟩;refine hN _ _ ?_;clear hN N)))
 refine aO (fun m env st=>∃k:Nat,m=cnt-k/\1<=k/\k<=cnt/\env 8=.int .i64 (k:Int)/\st.get ⟨271006002,σ.next+1+1+1+1⟩=some ⟨true,1,List.replicate k [.int .i64 v]++List.replicate (cnt-k) [.int .i64 0]⟩/\σ.next+4<st.next/\∀i:Id,i.bm<σ.next->st.get i=σ.get i) (cnt-1) ⟨1,rfl,Nat.le_refl _,zi,by(simp only[go_sem, ↓reduceIte,Nat.reduceEqDiff,Nat.reduceAdd,Nat.reduceSub,Nat.reduceLeDiff,reduceCtorEq,m1])<;>rfl,?_,by(try dsimp only);omega,fun i hi=>?_⟩ ?_
 ·simp only[go_sem, ↓reduceIte,Nat.reduceEqDiff,Nat.reduceAdd,Nat.reduceSub,Nat.reduceLeDiff,reduceCtorEq]
  rw[List.drop_replicate];rfl
 ·have Dy:=dz hi
  simp only[go_sem, ↓reduceIte,Nat.reduceEqDiff,Nat.reduceAdd,Nat.reduceSub,Nat.reduceLeDiff,reduceCtorEq,Dy]
 rintro m env_b st_b ⟨k,rfl,qN,sJ,b8,bg,bn,eV⟩ bkp
 have b7:=bkp 7 (by kernel_rfl)
 simp only[go_sem, ↓reduceIte,Nat.reduceEqDiff,Nat.reduceAdd,Nat.reduceSub,Nat.reduceLeDiff,reduceCtorEq]at b7
 clear bkp
 have Q4:(List.replicate k [AV.int .i64 v]++List.replicate (cnt-k) [AV.int .i64 0]).length=cnt:=by simp;omega
 by_cases hk:(k:Int)<(cnt:Int)
 ·have fa:k<cnt:=by omega
  have wS:(k:Int)<=(cnt:Int):=by omega
  have hw:IntKind.i64.wrap ((k:Int)+((min k (cnt-k):Nat):Int))=((k+min k (cnt-k):Nat):Int):=by rw[bh (by omega)];omega
  have oE:List.take k (List.replicate k [AV.int .i64 v]++List.replicate (cnt-k) [AV.int .i64 0])=List.replicate k [AV.int .i64 v]:=List.take_left' (by simp)
  have dL:(List.replicate k [AV.int .i64 v]).all (fun c=>c.length==1&&c.all AV.cell)=true:=List.all_eq_true.2 fun c hc=>by rw[List.eq_of_mem_replicate hc];rfl
  have hlr:(List.replicate k [AV.int .i64 v]).length=k:=List.length_replicate
  have Ox:k+(cnt-k)=cnt:=by omega
  have rE:List.replicate k [AV.int .i64 v]++List.take (min k (cnt-k)) (List.replicate k [AV.int .i64 v])++List.drop (k+min k (cnt-k)) (List.replicate k [AV.int .i64 v]++List.replicate (cnt-k) [AV.int .i64 0])=List.replicate (k+min k (cnt-k)) [AV.int .i64 v]++List.replicate (cnt-(k+min k (cnt-k))) [AV.int .i64 0]:=by
   rw[List.take_replicate,List.drop_append,List.drop_of_length_le (by simp),List.nil_append,hlr,List.drop_replicate,List.replicate_append_replicate]
   congr 2
   ·omega
   ·omega
  (try((repeat(revert hN;revert N;apply Pn.out));refine wk (tw @b7 (tw @b8 (tw @bg (tw @Q4 (tw @hk (tw @wS (tw @sJ (tw @hw (tw @fa (tw @Nat.sub_zero (tw @oE (tw @dL (tw @hlr (tw @Ox (tw @Nat.le_refl @rE))))))))))))))) ?_;(repeat(refine Pn.mk ?_;intro N hN))))
  refine⟨_,?_,k+min k (cnt-k),rfl,by omega,by omega,sd @hw,sd @rE,by(try dsimp only);omega,fun i hi=>?_⟩
  ·omega
  ·have Dy:=dz hi
   have:=eV i hi
   simp only[go_sem, ↓reduceIte,Nat.reduceEqDiff,Nat.reduceAdd,Nat.reduceSub,Nat.reduceLeDiff,reduceCtorEq,Dy,this]
 ·have k8:k=cnt:=by omega
  subst k8
  (try((repeat(revert hN;revert N;apply Pn.out));refine wk (tw @b7 (tw @b8 (tw @bg (tw @Q4 @hk)))) ?_;(repeat(refine Pn.mk ?_;intro N hN))))
  refine ft (.inl rfl) (vs:=[.own ⟨271006002,σ.next+1+1+1+1⟩ 0 k]) (sd @Nat.zero_add) ⟨⟨271006002,σ.next+1+1+1+1⟩,rfl,by simp only[go_sem, ↓reduceIte,Nat.reduceEqDiff,Nat.reduceAdd,Nat.reduceSub,Nat.reduceLeDiff,reduceCtorEq,bg];simp,by(try dsimp only);omega,by(try dsimp only);omega,fun i hi=>eV i hi⟩
end Go.Proofs.YtgoelphibofcmaaGreat.V

namespace Go.Proofs.YtgoelphibofcmaaGreat.V
open Go.RowKit
attribute [local irreducible] eb wpOps gj Call
attribute [local go_sem] aJ fM eP fZ fY cL upd cu K.av cN AV.cells AV.cell rowOf rowsOf part ld rowAt bI bW dD ee gT bL dc ev fU eY dr ej da cZ dO dR bR aX cR bQ cV cU eh ek ei cQ bV db ef bP aP cX cE gS bw cJ bU aW dx bj dE AV.undef bD bF dV ec dI dS cF eu eB cD ep eo cW cY List.getD_cons_zero List.getD_cons_succ List.getD_nil List.all_cons List.all_nil Bool.and_true Bool.true_and Bool.and_self Bool.not_true Bool.not_false Option.map_some Option.map_none Option.bind_some Option.bind_none List.length_cons List.length_nil List.take_succ_cons List.take_zero List.take_nil List.drop_succ_cons List.drop_zero List.drop_nil List.head?_cons List.map_cons List.map_nil List.getElem?_cons_zero List.getElem?_cons_succ List.cons_append List.nil_append List.append_nil List.length_map List.set_cons_zero List.set_cons_succ Nat.reduceMul eq_self Int.toNat_natCast Int.natCast_nonneg and_self true_and and_true decide_true decide_false Bool.false_eq_true Nat.zero_add Nat.add_zero List.contains_cons List.contains_nil Bool.or_false Bool.false_or beq_self_eq_true Nat.reduceBEq ne_eq not_true_eq_false not_false_eq_true Id.mk.injEq false_and and_false Nat.reduceLT Int.reduceLE Int.reduceLT Int.reduceToNat Int.reduceNeg Int.reduceAdd Nat.le_refl List.length_append beq_true beq_false Bool.not_eq_eq_eq_not or_false false_or dM aj aq aH bd bz ck aU bf aT aZ cP bH
def kY (R:Nat->Id) (n k:Nat):List (List AV):=(List.range k).map fun i=>[.own (R i) 0 n]
theorem jX (R:Nat->Id) (n k:Nat):(kY R n k).length=k:=by simp[kY]
theorem r4 {R:Nat->Id} {n k i:Nat} (h:i<k):(kY R n k)[i]? =some [.own (R i) 0 n]:=by simp[kY,h]
theorem sZ (R:Nat->Id) (n k:Nat):kY R n (k+1)=kY R n k++[[.own (R k) 0 n]]:=by simp[kY,List.range_succ]
def xp (c:Nat->Nat->Int) (n:Nat):List (List AV):=(List.range n).map fun i=>[.sl (dU (c i) n)]
theorem Cj {c:Nat->Nat->Int} {n i:Nat} (h:i<n):(xp c n)[i]? =some [.sl (dU (c i) n)]:=by simp[xp,h]
theorem wJ (c:Nat->Nat->Int) (n:Nat):(xp c n).length=n:=by simp[xp]
structure FE (X o1 o2:Id) (R1 R2:Nat->Id) (n nb:Nat):Prop where
 sx:X.site=245001001
 s1:o1.site=245004008
 s2:o2.site=245005008
 SN:∀i,i<n->(R1 i).site=245004006
 M4:∀i,i<n->(R2 i).site=245005006
 i1:∀i j,i<n->j<n->R1 i=R1 j->i=j
 i2:∀i j,i<n->j<n->R2 i=R2 j->i=j
 vx:X.bm<nb
 v1:o1.bm<nb
 v2:o2.bm<nb
 SP:∀i,i<n->(R1 i).bm<nb
 P0:∀i,i<n->(R2 i).bm<nb
structure nB (g:Rows) (X o1 o2:Id) (R1 R2:Nat->Id) (n:Nat) (c f:Nat->Nat->Int):Prop where
 x:g X=some ⟨true,2,[[.own o1 0 n,.own o2 0 n]]⟩
 t1:g o1=some ⟨true,1,kY R1 n n⟩
 t2:g o2=some ⟨true,1,kY R2 n n⟩
 r1:∀i,i<n->g (R1 i)=some ⟨true,1,dU (c i) n⟩
 r2:∀i,i<n->g (R2 i)=some ⟨true,1,dU (f i) n⟩
theorem nB.frame {g g':Rows} {X o1 o2:Id} {R1 R2:Nat->Id} {n nb:Nat} {c f:Nat->Nat->Int} (I:FE X o1 o2 R1 R2 n nb) (h:nB g X o1 o2 R1 R2 n c f) (hf:∀i:Id,i.bm<nb->g' i=g i):nB g' X o1 o2 R1 R2 n c f:=
 ⟨(hf _ I.vx).trans h.x,(hf _ I.v1).trans h.t1,(hf _ I.v2).trans h.t2,fun i hi=>(hf _ (I.SP i hi)).trans (h.r1 i hi),fun i hi=>(hf _ (I.P0 i hi)).trans (h.r2 i hi)⟩
theorem od {f:Nat->Nat->Int} {a b:Nat} {d:Int} {n:Nat} (hb:b<n):(dU (f a) n).set b (aG (f a b+d))=dU (bump f a b d a) n:=kZ hb (by simp[bump]) fun i _ hi=>by simp[bump,hi]
theorem jR {f:Nat->Nat->Int} {a b i:Nat} {d:Int} (h:i≠a):bump f a b d i=f i:=by funext v;simp[bump,h]
theorem nB.add {g g':Rows} {X o1 o2:Id} {R1 R2:Nat->Id} {n nb:Nat} {c f:Nat->Nat->Int} (I:FE X o1 o2 R1 R2 n nb) (h:nB g X o1 o2 R1 R2 n c f) (b:PB) (ha:b.a<n) (hb:b.b<n) (hA:b.a≠b.b->g' (R1 b.a)=some ⟨true,1,dU (bump c b.a b.b b.s b.a) n⟩) (hB:g' (R1 b.b)=some ⟨true,1,dU (nC c b b.b) n⟩) (hf:∀i:Id,i.bm<nb->(i=R1 b.a)=False->(i=R1 b.b)=False->g' i=g i):nB g' X o1 o2 R1 R2 n (nC c b) f:=by
 have ne:∀{i:Id} {s:Nat},i.site=s->(s==245004006)=false->∀a,a<n->(i=R1 a)=False:=fun {i s} hi hs a ha=>by
  simp only[eq_iff_iff,iff_false]
  rintro rfl
  rw[I.SN a ha]at hi
  subst hi
  simp at hs
 refine⟨(hf _ I.vx (ne I.sx (by decide) _ ha) (ne I.sx (by decide) _ hb)).trans h.x,(hf _ I.v1 (ne I.s1 (by decide) _ ha) (ne I.s1 (by decide) _ hb)).trans h.t1,(hf _ I.v2 (ne I.s2 (by decide) _ ha) (ne I.s2 (by decide) _ hb)).trans h.t2,fun i hi=>?_,fun i hi=>(hf _ (I.P0 i hi) (ne (I.M4 i hi) (by decide) _ ha) (ne (I.M4 i hi) (by decide) _ hb)).trans (h.r2 i hi)⟩
 by_cases Ki:i=b.b
 ·subst Ki;exact hB
 ·by_cases Kh:i=b.a
  ·subst Kh
   rw[hA Ki,nC,jR Ki]
  ·rw[nC,jR Ki,jR Kh,hf _ (I.SP i hi) (by simp only[eq_iff_iff,iff_false];exact fun he=>Kh (I.i1 i _ hi ha he)) (by simp only[eq_iff_iff,iff_false];exact fun he=>Ki (I.i1 i _ hi hb he))]
   exact h.r1 i hi
def lq (n:Nat) (c f:Nat->Nat->Int):List AV:=[.sl (xp c n),.sl (xp f n)]
theorem Fw {g:Rows} {R:Nat->Id} {n k:Nat} {c:Nat->Nat->Int} (h:∀i,i<k->g (R i)=some ⟨true,1,dU (c i) n⟩) (m:Nat):dY (dM g) (m+3) (kY R n k)=some ((List.range k).map fun i=>[.sl (dU (c i) n)]):=by
 induction k with
 |zero=>rw[show kY R n 0=[]from rfl,dY];rfl
 |succ k ih=>
  have e1:V.fz (dM g) (m+3) (.own (R k) 0 n)=some (.sl (dU (c k) n)):=by
   rw[ig];simp only[dM,h k (by omega),Option.map_some,if_true]
   rw[if_pos (by rw[dy];omega),List.drop_zero,List.take_of_length_le (by rw[dy];omega),zX];rfl
  have app:∀(xs ys:List (List AV)) (SR RT:List (List AV)),dY (dM g) (m+3) xs=some SR->dY (dM g) (m+3) ys=some RT->dY (dM g) (m+3) (xs++ys)=some (SR++RT):=by
   intro xs
   induction xs with
   |nil=>intro ys SR RT h1 h2;rw[dY]at h1;cases h1;exact h2
   |cons a xs ih2=>
    intro ys SR RT h1 h2
    rw[dY]at h1
    rw[List.cons_append,dY]
    cases ha:cK (dM g) (m+3) a with
    |none=>simp[ha]at h1
    |some a'=>
     cases hb:dY (dM g) (m+3) xs with
     |none=>simp[ha,hb]at h1
     |some b'=>
      simp[ha,hb]at h1
      subst h1
      rw[ih2 ys b' RT hb h2];rfl
  rw[sZ,List.range_succ,List.map_append]
  refine app _ _ _ _ (ih fun i hi=>h i (by omega)) ?_
  rw[dY,aj,aq,e1,dY];rfl
theorem nB.fz {g:Rows} {X o1 o2:Id} {R1 R2:Nat->Id} {n:Nat} {c f:Nat->Nat->Int} (h:nB g X o1 o2 R1 R2 n c f):V.fz (dM g) 6 (.ptr X 0 0)=some (.dj (lq n c f)):=by
 refine y6 (sz:=2) (rows:=[[.own o1 0 n,.own o2 0 n]]) (by simp[dM,h.x]) rfl ?_
 have e1:V.fz (dM g) 5 (.own o1 0 n)=some (.sl (xp c n)):=by
  rw[ig];simp only[dM,h.t1,Option.map_some,if_true]
  rw[if_pos (by rw[jX];omega),List.drop_zero,List.take_of_length_le (by rw[jX];omega)]
  rw[show dY _ 4 _=some (xp c n)from Fw h.r1 1];rfl
 have e2:V.fz (dM g) 5 (.own o2 0 n)=some (.sl (xp f n)):=by
  rw[ig];simp only[dM,h.t2,Option.map_some,if_true]
  rw[if_pos (by rw[jX];omega),List.drop_zero,List.take_of_length_le (by rw[jX];omega)]
  rw[show dY _ 4 _=some (xp f n)from Fw h.r2 1];rfl
 simp only[List.drop_zero,aj,aq,e1,e2,lq,Option.map_some]
theorem NH (n:Nat) (c f:Nat->Nat->Int) (u v:Nat) (hu:u<n) (hv:v<n):ar Tryz.prog 272 [.dj (lq n c f),.int .i64 u,.int .i64 v] (.bool (decide (f u v<c u v))):=by
 refine ar.body eJ rfl fun hl n0=>?_
 clear hl
 have h1:=Cj (c:=c) hu
 have h2:=Cj (c:=f) hu
 have h3:=dJ (f:=c u) hv
 have h4:=dJ (f:=f u) hv
 have hui:(u:Int)<(n:Int):=by omega
 have Dy:(v:Int)<(n:Int):=by omega
 have l1:=wJ c n
 have l2:=wJ f n
 have l3:=dy (c u) n
 have l4:=dy (f u) n
 rw[aG]at h3 h4
 (try((repeat(revert hN;revert N;apply Pn.out));refine wk (tw @lq.eq_1 (tw @h1 (tw @h2 (tw @h3 (tw @h4 (tw @hui (tw @Dy (tw @l1 (tw @l2 (tw @l3 @l4)))))))))) ?_;(repeat(refine Pn.mk ?_;intro N hN))))
 exact aQ (b:=decide (f u v<c u v)) (.inl rfl) (sd @Nat.zero_add) rfl
end Go.Proofs.YtgoelphibofcmaaGreat.V

namespace Go.Proofs.YtgoelphibofcmaaGreat.V
open Go.RowKit
attribute [local irreducible] eb wpOps gj Call
attribute [local go_sem] aJ fM eP fZ fY cL upd cu K.av cN AV.cells AV.cell rowOf rowsOf part ld rowAt bI bW dD ee gT bL dc ev fU eY dr ej da cZ dO dR bR aX cR bQ cV cU eh ek ei cQ bV db ef bP aP cX cE gS bw cJ bU aW dx bj dE AV.undef bD bF dV ec dI dS cF eu eB cD ep eo cW cY List.getD_cons_zero List.getD_cons_succ List.getD_nil List.all_cons List.all_nil Bool.and_true Bool.true_and Bool.and_self Bool.not_true Bool.not_false Option.map_some Option.map_none Option.bind_some Option.bind_none List.length_cons List.length_nil List.take_succ_cons List.take_zero List.take_nil List.drop_succ_cons List.drop_zero List.drop_nil List.head?_cons List.map_cons List.map_nil List.getElem?_cons_zero List.getElem?_cons_succ List.cons_append List.nil_append List.append_nil List.length_map List.set_cons_zero List.set_cons_succ Nat.reduceMul eq_self Int.toNat_natCast Int.natCast_nonneg and_self true_and and_true decide_true decide_false Bool.false_eq_true Nat.zero_add Nat.add_zero List.contains_cons List.contains_nil Bool.or_false Bool.false_or beq_self_eq_true Nat.reduceBEq ne_eq not_true_eq_false not_false_eq_true Id.mk.injEq false_and and_false Nat.reduceLT Int.reduceLE Int.reduceLT Int.reduceToNat Int.reduceNeg Int.reduceAdd Nat.le_refl List.length_append beq_true beq_false Bool.not_eq_eq_eq_not or_false false_or dM aj aq aH bd bz ck aU bf aT aZ cP bH
theorem Hc (n:Nat):List.replicate n [AV.int .i64 0]=dU (fun _=>0) n:=by
 refine List.ext_getElem? fun i=>?_
 by_cases h:i<n
 ·rw[dJ h,List.getElem?_replicate,if_pos h];rfl
 ·rw[List.getElem?_eq_none (by simp;omega),List.getElem?_eq_none (by rw[dy];omega)]
theorem zU {i j:Id} {s t:Nat} (hi:i.site=s) (hj:j.site=t) (h:(s==t)=false):(i=j)=False/\(j=i)=False:=by
 constructor<;>(simp only[eq_iff_iff,iff_false];rintro rfl;rw[hi]at hj;subst hj;simp at h)
theorem BZ (cnt:Nat) (zi:1<=cnt) (hn:cnt<=1048576) (bs:List PB) (hb:∀b∈bs,b.a<cnt/\b.b<cnt) (dH:∀b∈bs,0<=b.s/\b.s<=4) (nH:bs.length<=1048576) (σ:au):
  Call Tryz.prog 245 [.int .i64 cnt,.sl (bs.map aA)] σ fun r σ'=>∃X o1 o2 R1 R2,r=.ptr X 0 0/\FE X o1 o2 R1 R2 cnt σ'.next/\σ.next<=σ'.next/\nB σ'.get X o1 o2 R1 R2 cnt (kV bs) (fun _ _=>0)/\∀i:Id,i.bm<σ.next->σ'.get i=σ.get i:=by
 refine eU eJ rfl fun hl=>?_
 clear hl
 (try((repeat(revert hN;revert N;apply Pn.out));refine wk @Nat.zero_add ?_;(repeat(refine Pn.mk ?_;intro N hN))))
 obtain⟨X,hX⟩:∃X:Id,X=⟨245001001,σ.next+1⟩:=⟨_,rfl⟩
 obtain⟨R1,TC⟩:∃R:Nat->Id,R=fun k=>⟨245004006,σ.next+3+4*k+1⟩:=⟨_,rfl⟩
 obtain⟨R2,Qv⟩:∃R:Nat->Id,R=fun k=>⟨245005006,σ.next+3+4*k+2⟩:=⟨_,rfl⟩
 have sX:X.site=245001001:=by rw[hX]
 have vX:X.bm=σ.next+1:=by rw[hX]
 have s1:∀k,(R1 k).site=245004006:=fun k=>by rw[TC]
 have s2:∀k,(R2 k).site=245005006:=fun k=>by rw[Qv]
 have v1:∀k,(R1 k).bm=σ.next+3+4*k+1:=fun k=>by rw[TC]
 have v2:∀k,(R2 k).bm=σ.next+3+4*k+2:=fun k=>by rw[Qv]
 have jA:(0:Int)<=(cnt:Int):=by omega
 have pE:(cnt:Int)<=((16777216:Nat):Int):=by omega
 have hz:=Hc cnt
 have t1:kY R1 cnt 0=[]:=rfl
 have t2:kY R2 cnt 0=[]:=rfl
 refine aO (fun n env st=>∃k:Nat,n=(cnt)-k/\k<=(cnt)/\env 11=.int .i64 (k:Int)/\env 5=(.ptr X 0 0)/\(st.next=σ.next+3+4*k/\(∀i:Id,i.bm<σ.next->st.get i=σ.get i)/\∀j,j<k->st.get (R1 j)=some ⟨true,1,dU (fun _=>0) cnt⟩/\st.get (R2 j)=some ⟨true,1,dU (fun _=>0) cnt⟩)/\((k=0/\st.get X=some ⟨true,2,[[.cr,.cr]]⟩)∨∃o1 o2:Id,o1.site=245004008/\o2.site=245005008/\o1.bm<st.next/\o2.bm<st.next/\σ.next<=o1.bm/\σ.next<=o2.bm/\st.get X=some ⟨true,2,[[.own o1 0 k,.own o2 0 k]]⟩/\st.get o1=some ⟨true,1,kY R1 cnt k⟩/\st.get o2=some ⟨true,1,kY R2 cnt k⟩)) (cnt) ⟨0,by omega,by omega,sl @hX,sl @hX,⟨rfl,fun i hi=>by(have Dy:=dz hi);simp only[go_sem, ↓reduceIte,Nat.reduceEqDiff,Nat.reduceAdd,Nat.reduceSub,Nat.reduceLeDiff,reduceCtorEq,Dy],fun j hj=>absurd hj (Nat.not_lt_zero j)⟩,.inl ⟨rfl,by rw[hX];simp only[go_sem, ↓reduceIte,Nat.reduceEqDiff,Nat.reduceAdd,Nat.reduceSub,Nat.reduceLeDiff,reduceCtorEq]⟩⟩ ?_
 rintro n_a env_a st_a ⟨k,rfl,ale,a11,a5,ke,aI1⟩ dv
 have a0:=dv 0 (by kernel_rfl);have a1:=dv 1 (by kernel_rfl);have w5:=dv 10 (by kernel_rfl)
 simp only[go_sem, ↓reduceIte,Nat.reduceEqDiff,Nat.reduceAdd,Nat.reduceSub,Nat.reduceLeDiff,reduceCtorEq,hX]at a0 a1 w5
 clear dv
 obtain⟨anx,dv,aR⟩:=ke
 have wX:=dz (i:=X) (n:=st_a.next) (by omega)
 by_cases hk:(k:Int)<(cnt:Int)
 ·have cz:∀{e:Env} {gg:Rows} {nx:Nat},(e 11=.int .i64 (IntKind.i64.wrap ((k:Int)+1)))->(e 5=(.ptr X 0 0))->(nx=σ.next+3+4*(k+1)/\(∀i:Id,i.bm<σ.next->gg i=σ.get i)/\∀j,j<(k+1)->gg (R1 j)=some ⟨true,1,dU (fun _=>0) cnt⟩/\gg (R2 j)=some ⟨true,1,dU (fun _=>0) cnt⟩)->(((k+1)=0/\gg X=some ⟨true,2,[[.cr,.cr]]⟩)∨∃o1 o2:Id,o1.site=245004008/\o2.site=245005008/\o1.bm<nx/\o2.bm<nx/\σ.next<=o1.bm/\σ.next<=o2.bm/\gg X=some ⟨true,2,[[.own o1 0 (k+1),.own o2 0 (k+1)]]⟩/\gg o1=some ⟨true,1,kY R1 cnt (k+1)⟩/\gg o2=some ⟨true,1,kY R2 cnt (k+1)⟩)->∃m0,m0<(cnt)-k/\∃k:Nat,m0=(cnt)-k/\k<=(cnt)/\e 11=.int .i64 (k:Int)/\e 5=(.ptr X 0 0)/\(nx=σ.next+3+4*k/\(∀i:Id,i.bm<σ.next->gg i=σ.get i)/\∀j,j<k->gg (R1 j)=some ⟨true,1,dU (fun _=>0) cnt⟩/\gg (R2 j)=some ⟨true,1,dU (fun _=>0) cnt⟩)/\((k=0/\gg X=some ⟨true,2,[[.cr,.cr]]⟩)∨∃o1 o2:Id,o1.site=245004008/\o2.site=245005008/\o1.bm<nx/\o2.bm<nx/\σ.next<=o1.bm/\σ.next<=o2.bm/\gg X=some ⟨true,2,[[.own o1 0 k,.own o2 0 k]]⟩/\gg o1=some ⟨true,1,kY R1 cnt k⟩/\gg o2=some ⟨true,1,kY R2 cnt k⟩):=fun x1 x2 x3 x4=>⟨_,by omega,k+1,rfl,by omega,(by rw[x1,az (by omega)]),x2,x3,x4⟩
  have fa:k<cnt:=by omega
  have qN:R1 k=⟨245004006,st_a.next+1⟩:=by rw[TC,anx]
  have sJ:R2 k=⟨245005006,st_a.next+1+1⟩:=by rw[Qv,anx]
  have Kn:kY R1 cnt (k+1)=kY R1 cnt k++[[.own ⟨245004006,st_a.next+1⟩ 0 cnt]]:=by rw[sZ,qN]
  have PQ:kY R2 cnt (k+1)=kY R2 cnt k++[[.own ⟨245005006,st_a.next+1+1⟩ 0 cnt]]:=by rw[sZ,sJ]
  rcases aI1 with⟨rfl,P8⟩|⟨o1,o2,so1,so2,vo1,vo2,vn1,vn2,P8,ag1,ag2⟩
  ·(try((repeat(revert hN;revert N;apply Pn.out));refine wk (tw @a11 (tw @a5 (tw @a0 (tw @a1 (tw @w5 (tw @hk (tw @wX (tw @P8 (tw @jA (tw @pE (tw @Int.le_refl @hz))))))))))) ?_;(repeat(refine Pn.mk ?_;intro N hN))))
   refine cz ?_ ?_ (by
    (try dsimp only)
    refine⟨by omega,fun i hi=>?_,fun j hj=>?_⟩
    ·have q1:=dz (i:=i) (n:=st_a.next) (by omega)
     have q2:=dq (a:=i) (b:=X) (by omega)
     have:=dv i hi
     simp only[go_sem, ↓reduceIte,Nat.reduceEqDiff,Nat.reduceAdd,Nat.reduceSub,Nat.reduceLeDiff,reduceCtorEq,q1,q2,this]
    ·by_cases xU:j=0
     ·subst xU
      rw[qN,sJ]
      have q1:=gy sX (b:=245004006) (v:=st_a.next+1) (by decide)
      have q2:=gy sX (b:=245005006) (v:=st_a.next+1+1) (by decide)
      simp only[go_sem, ↓reduceIte,Nat.reduceEqDiff,Nat.reduceAdd,Nat.reduceSub,Nat.reduceLeDiff,reduceCtorEq,q1,q2]
     ·obtain⟨r1,r2⟩:=aR j (by omega)
      have q1:=dz (i:=R1 j) (n:=st_a.next) (by rw[v1];omega)
      have q2:=dz (i:=R2 j) (n:=st_a.next) (by rw[v2];omega)
      have q3:=zU (s1 j) sX (by decide)
      have q4:=zU (s2 j) sX (by decide)
      constructor
      ·simp only[go_sem, ↓reduceIte,Nat.reduceEqDiff,Nat.reduceAdd,Nat.reduceSub,Nat.reduceLeDiff,reduceCtorEq,q1,q3,r1]
      ·simp only[go_sem, ↓reduceIte,Nat.reduceEqDiff,Nat.reduceAdd,Nat.reduceSub,Nat.reduceLeDiff,reduceCtorEq,q2,q4,r2]) (.inr ⟨⟨245004008,st_a.next+1⟩,⟨245005008,st_a.next+1+1⟩,rfl,rfl,by(try dsimp only);omega,by(try dsimp only);omega,by(try dsimp only);omega,by(try dsimp only);omega,sd @wX,by rw[Kn,t1];simp only[go_sem, ↓reduceIte,Nat.reduceEqDiff,Nat.reduceAdd,Nat.reduceSub,Nat.reduceLeDiff,reduceCtorEq,wX,List.nil_append],by rw[PQ,t2];simp only[go_sem, ↓reduceIte,Nat.reduceEqDiff,Nat.reduceAdd,Nat.reduceSub,Nat.reduceLeDiff,reduceCtorEq,wX,List.nil_append]⟩)
   all_goals simp only[go_sem, ↓reduceIte,Nat.reduceEqDiff,Nat.reduceAdd,Nat.reduceSub,Nat.reduceLeDiff,reduceCtorEq,a11,a5,a0,a1,w5,wX]
  ·have l1:=jX R1 cnt k
   have l2:=jX R2 cnt k
   have e1:k+1<=16777216:=by omega
   have w1:=dz vo1
   have w2:=dz vo2
   have x1:=zU sX so1 (by decide)
   have x2:=zU sX so2 (by decide)
   have x3:=zU so1 so2 (by decide)
   (try((repeat(revert hN;revert N;apply Pn.out));refine wk (tw @a11 (tw @a5 (tw @a0 (tw @a1 (tw @w5 (tw @hk (tw @wX (tw @P8 (tw @ag1 (tw @ag2 (tw @l1 (tw @l2 (tw @e1 (tw @w1 (tw @w2 (tw @x1 (tw @x2 (tw @x3 (tw @jA (tw @pE (tw @Int.le_refl @hz))))))))))))))))))))) ?_;(repeat(refine Pn.mk ?_;intro N hN))))
   refine cz ?_ ?_ (by
    (try dsimp only)
    refine⟨by omega,fun i hi=>?_,fun j hj=>?_⟩
    ·have q1:=dz (i:=i) (n:=st_a.next) (by omega)
     have q2:=dq (a:=i) (b:=X) (by omega)
     have q3:=dq (a:=i) (b:=o1) (by omega)
     have q4:=dq (a:=i) (b:=o2) (by omega)
     have:=dv i hi
     simp only[go_sem, ↓reduceIte,Nat.reduceEqDiff,Nat.reduceAdd,Nat.reduceSub,Nat.reduceLeDiff,reduceCtorEq,q1,q2,this,q3,q4]
    ·by_cases xU:j=k
     ·subst xU
      rw[qN,sJ]
      have q1:=gy sX (b:=245004006) (v:=st_a.next+1) (by decide)
      have q2:=gy sX (b:=245005006) (v:=st_a.next+1+1) (by decide)
      simp only[go_sem, ↓reduceIte,Nat.reduceEqDiff,Nat.reduceAdd,Nat.reduceSub,Nat.reduceLeDiff,reduceCtorEq,q1,q2,w1,w2]
     ·obtain⟨r1,r2⟩:=aR j (by omega)
      have q1:=dz (i:=R1 j) (n:=st_a.next) (by rw[v1];omega)
      have q2:=dz (i:=R2 j) (n:=st_a.next) (by rw[v2];omega)
      have q3:=zU (s1 j) sX (by decide)
      have q4:=zU (s2 j) sX (by decide)
      have q5:=zU (s1 j) so1 (by decide)
      have q6:=zU (s1 j) so2 (by decide)
      have q7:=zU (s2 j) so1 (by decide)
      have q8:=zU (s2 j) so2 (by decide)
      constructor
      ·simp only[go_sem, ↓reduceIte,Nat.reduceEqDiff,Nat.reduceAdd,Nat.reduceSub,Nat.reduceLeDiff,reduceCtorEq,q1,q3,r1,q5,q6]
      ·simp only[go_sem, ↓reduceIte,Nat.reduceEqDiff,Nat.reduceAdd,Nat.reduceSub,Nat.reduceLeDiff,reduceCtorEq,q2,q4,r2,q7,q8]) (.inr ⟨⟨245004008,st_a.next+1⟩,⟨245005008,st_a.next+1+1⟩,rfl,rfl,by(try dsimp only);omega,by(try dsimp only);omega,by(try dsimp only);omega,by(try dsimp only);omega,sd @wX,by rw[Kn];simp only[go_sem, ↓reduceIte,Nat.reduceEqDiff,Nat.reduceAdd,Nat.reduceSub,Nat.reduceLeDiff,reduceCtorEq,wX,w1,w2],by rw[PQ];simp only[go_sem, ↓reduceIte,Nat.reduceEqDiff,Nat.reduceAdd,Nat.reduceSub,Nat.reduceLeDiff,reduceCtorEq,wX,w1,w2]⟩)
   all_goals simp only[go_sem, ↓reduceIte,Nat.reduceEqDiff,Nat.reduceAdd,Nat.reduceSub,Nat.reduceLeDiff,reduceCtorEq,a11,a5,a0,a1,w5,wX,w1,w2,x1,x2,x3]
 have k8:cnt=k:=by omega
 subst k8
 rcases aI1 with⟨h0,_⟩|⟨o1,o2,so1,so2,vo1,vo2,vn1,vn2,P8,ag1,ag2⟩
 ·omega
 (try((repeat(revert hN;revert N;apply Pn.out));refine wk (tw @a11 (tw @a5 (tw @a0 (tw @a1 (tw @w5 @hk))))) ?_;(repeat(refine Pn.mk ?_;intro N hN))))
 have I:FE X o1 o2 R1 R2 cnt st_a.next:=⟨sX,so1,so2,fun i _=>s1 i,fun i _=>s2 i,fun i j _ _ h=>by have:=v1 i;rw[h,v1]at this;omega,fun i j _ _ h=>by have:=v2 i;rw[h,v2]at this;omega,by omega,vo1,vo2,fun i hi=>by rw[v1];omega,fun i hi=>by rw[v2];omega⟩
 refine aO (fun n env st=>∃i:Nat,n=(bs.length)-i/\i<=(bs.length)/\env 38=.int .i64 (i:Int)/\(st_a.next<=st.next/\(∀x:Id,x.bm<σ.next->st.get x=σ.get x)/\nB st.get X o1 o2 R1 R2 cnt (kV (bs.take i)) (fun _ _=>0))) (bs.length) ⟨0,by omega,by omega,sl (tw @a11 (tw @a5 (tw @a0 (tw @a1 @w5)))),⟨by(try dsimp only);omega,dv,P8,ag1,ag2,fun j hj=>(aR j hj).1,fun j hj=>(aR j hj).2⟩⟩ ?_
 rintro n_b env_b st_b ⟨i,rfl,ble,b38,bI0⟩ eV
 have b0:=eV 0 (by kernel_rfl);have b1:=eV 1 (by kernel_rfl);have b5:=eV 5 (by kernel_rfl);have Pt:=eV 36 (by kernel_rfl);have Pu:=eV 37 (by kernel_rfl)
 simp only[go_sem, ↓reduceIte,Nat.reduceEqDiff,Nat.reduceAdd,Nat.reduceSub,Nat.reduceLeDiff,reduceCtorEq,a11,a5,a0,a1,w5]at b0 b1 b5 Pt Pu
 clear eV
 obtain⟨bn,Ns,bM⟩:=bI0
 by_cases hi:(i:Int)<(bs.length:Int)
 ·have fh:∀{e:Env} {gg:Rows} {nx:Nat},(e 38=.int .i64 (IntKind.i64.wrap ((i:Int)+1)))->(st_a.next<=nx/\(∀x:Id,x.bm<σ.next->gg x=σ.get x)/\nB gg X o1 o2 R1 R2 cnt (kV (bs.take (i+1))) (fun _ _=>0))->∃m0,m0<(bs.length)-i/\∃i:Nat,m0=(bs.length)-i/\i<=(bs.length)/\e 38=.int .i64 (i:Int)/\(st_a.next<=nx/\(∀x:Id,x.bm<σ.next->gg x=σ.get x)/\nB gg X o1 o2 R1 R2 cnt (kV (bs.take i)) (fun _ _=>0)):=fun x1 x2=>⟨_,by omega,i+1,rfl,by omega,(by rw[x1,az (by omega)]),x2⟩
  have fI:i<bs.length:=by omega
  have kh:(bs.map aA)[i]? =some (aA bs[i]):=by simp[fI]
  have fo:=hb _ (List.getElem_mem fI)
  have hsi:=dH _ (List.getElem_mem fI)
  have pI:kV (bs.take (i+1))=nC (kV (bs.take i)) bs[i]:=by rw[List.take_succ_eq_append_getElem fI,D7]
  have qo:=zN (bs.take i) (fun _ _=>0) (fun b hb=>(dH b (List.mem_of_mem_take hb)).1) (fun _ _=>Int.le_refl _)
  have hle:=room_le (bs.take i) (fun _ _=>0) 0 (fun b hb=>(dH b (List.mem_of_mem_take hb)).2) (fun _ _=>Int.le_refl _) (Int.le_refl _)
  rw[List.length_take]at hle
  have fP:(bs.take i).foldl nC (fun _ _=>0)=kV (bs.take i):=rfl
  rw[fP]at qo hle
  generalize kV (bs.take i)=c at *
  generalize bs[i]=b at *
  obtain⟨ha,sG⟩:=fo
  have gA:=r4 (R:=R1) (n:=cnt) ha
  have gB:=r4 (R:=R1) (n:=cnt) sG
  have rA:=bM.r1 _ ha
  have rB:=bM.r1 _ sG
  have cA:=dJ (f:=c b.a) sG
  have cB:=dJ (f:=c b.b) ha
  have sA:=od (f:=c) (a:=b.a) (d:=b.s) sG
  have gX:=bM.x
  have g1:=bM.t1
  have gC:(b.a:Int)<(cnt:Int):=by omega
  have fo:(b.b:Int)<(cnt:Int):=by omega
  have qX:=dz (i:=X) (n:=st_b.next) (by omega)
  have q1:=dz (i:=o1) (n:=st_b.next) (by omega)
  have qA:=dz (i:=R1 b.a) (n:=st_b.next) (by rw[v1];omega)
  have qB:=dz (i:=R1 b.b) (n:=st_b.next) (by rw[v1];omega)
  have xA:=zU sX (s1 b.a) (by decide)
  have xB:=zU sX (s1 b.b) (by decide)
  have yA:=zU so1 (s1 b.a) (by decide)
  have yB:=zU so1 (s1 b.b) (by decide)
  have l1:=jX R1 cnt cnt
  have lA:=dy (c b.a) cnt
  have lB:=dy (c b.b) cnt
  have hAB:=hle b.a b.b
  have hBA:=hle b.b b.a
  have gAB:=qo b.a b.b
  have gBA:=qo b.b b.a
  have wA:IntKind.i64.wrap (c b.a b.b+b.s)=c b.a b.b+b.s:=bh (by omega)
  by_cases nG:b.a=b.b
  ·obtain⟨ba,bb,s⟩:=b
   dsimp only at *
   subst nG
   have Ou:=od (f:=bump c ba ba s) (a:=ba) (b:=ba) (d:=s) (n:=cnt) ha
   have TP:=dJ (f:=bump c ba ba s ba) ha
   have hv:bump c ba ba s ba ba=c ba ba+s:=by simp[bump]
   have lC:=dy (bump c ba ba s ba) cnt
   have wB:IntKind.i64.wrap (c ba ba+s+s)=c ba ba+s+s:=bh (by omega)
   rw[hv]at Ou TP
   have sH:nC c ⟨ba,ba,s⟩ ba=bump (bump c ba ba s) ba ba s ba:=rfl
   rw[aG]at cA sA Ou TP
   (try((repeat(revert hN;revert N;apply Pn.out));refine wk (tw @b38 (tw @b0 (tw @b1 (tw @b5 (tw @Pt (tw @Pu (tw @hi (tw @kh (tw @aA.eq_1 (tw @gA (tw @rA (tw @cA (tw @sA (tw @gX (tw @g1 (tw @gC (tw @qX (tw @q1 (tw @qA (tw @xA (tw @yA (tw @l1 (tw @lA (tw @wA (tw @Ou (tw @TP (tw @lC @wB))))))))))))))))))))))))))) ?_;(repeat(refine Pn.mk ?_;intro N hN))))
   exact fh (sd (tw @b38 (tw @b0 (tw @b1 (tw @b5 (tw @Pt @Pu)))))) (by
    (try dsimp only)
    refine⟨by omega,fun x hx=>?_,?_⟩
    ·have p1:=dz (i:=x) (n:=st_b.next) (by omega)
     have p2:=dq (a:=x) (b:=R1 ba) (by rw[v1];omega)
     have:=Ns x hx
     simp only[go_sem, ↓reduceIte,Nat.reduceEqDiff,Nat.reduceAdd,Nat.reduceSub,Nat.reduceLeDiff,reduceCtorEq,p1,p2,this]
    ·rw[pI]
     refine bM.add I ⟨ba,ba,s⟩ ha ha (fun h=>absurd rfl h) ?_ fun x hx h1 h2=>?_
     ·rw[sH]
      simp only[go_sem, ↓reduceIte,Nat.reduceEqDiff,Nat.reduceAdd,Nat.reduceSub,Nat.reduceLeDiff,reduceCtorEq]
     ·have p1:=dz (i:=x) (n:=st_b.next) (by omega)
      (try dsimp only at h2)
      simp only[go_sem, ↓reduceIte,Nat.reduceEqDiff,Nat.reduceAdd,Nat.reduceSub,Nat.reduceLeDiff,reduceCtorEq,p1,h2])
  ·have gU:(R1 b.a=R1 b.b)=False:=by simp only[eq_iff_iff,iff_false];exact fun h=>nG (I.i1 _ _ ha sG h)
   have IJ:(R1 b.b=R1 b.a)=False:=by simp only[eq_iff_iff,iff_false];exact fun h=>nG (I.i1 _ _ ha sG h.symm)
   have Oj:bump c b.a b.b b.s b.b=c b.b:=jR fun h=>nG h.symm
   have Ou:=od (f:=bump c b.a b.b b.s) (a:=b.b) (b:=b.a) (d:=b.s) (n:=cnt) ha
   rw[Oj]at Ou
   have wB:IntKind.i64.wrap (c b.b b.a+b.s)=c b.b b.a+b.s:=bh (by omega)
   have sH:nC c b b.b=bump (bump c b.a b.b b.s) b.b b.a b.s b.b:=rfl
   rw[aG]at cA cB sA Ou
   (try((repeat(revert hN;revert N;apply Pn.out));refine wk (tw @b38 (tw @b0 (tw @b1 (tw @b5 (tw @Pt (tw @Pu (tw @hi (tw @kh (tw @aA.eq_1 (tw @gA (tw @gB (tw @rA (tw @rB (tw @cA (tw @cB (tw @sA (tw @gX (tw @g1 (tw @gC (tw @fo (tw @qX (tw @q1 (tw @qA (tw @qB (tw @xA (tw @xB (tw @yA (tw @yB (tw @l1 (tw @lA (tw @lB (tw @wA (tw @Ou (tw @wB (tw @gU @IJ))))))))))))))))))))))))))))))))))) ?_;(repeat(refine Pn.mk ?_;intro N hN))))
   exact fh (sd (tw @b38 (tw @b0 (tw @b1 (tw @b5 (tw @Pt @Pu)))))) (by
    (try dsimp only)
    refine⟨by omega,fun x hx=>?_,?_⟩
    ·have p1:=dz (i:=x) (n:=st_b.next) (by omega)
     have p2:=dq (a:=x) (b:=R1 b.b) (by rw[v1];omega)
     have p3:=dq (a:=x) (b:=R1 b.a) (by rw[v1];omega)
     have:=Ns x hx
     simp only[go_sem, ↓reduceIte,Nat.reduceEqDiff,Nat.reduceAdd,Nat.reduceSub,Nat.reduceLeDiff,reduceCtorEq,p1,p2,p3,this]
    ·rw[pI]
     refine bM.add I b ha sG (fun h=>?_) ?_ fun x hx h1 h2=>?_
     ·simp only[go_sem, ↓reduceIte,Nat.reduceEqDiff,Nat.reduceAdd,Nat.reduceSub,Nat.reduceLeDiff,reduceCtorEq,gU]
     ·rw[sH]
      simp only[go_sem, ↓reduceIte,Nat.reduceEqDiff,Nat.reduceAdd,Nat.reduceSub,Nat.reduceLeDiff,reduceCtorEq,gU]
     ·have p1:=dz (i:=x) (n:=st_b.next) (by omega)
      simp only[go_sem, ↓reduceIte,Nat.reduceEqDiff,Nat.reduceAdd,Nat.reduceSub,Nat.reduceLeDiff,reduceCtorEq,p1,h1,h2])
 ·have nz:i=bs.length:=by omega
  subst nz
  rw[List.take_length]at bM
  (try((repeat(revert hN;revert N;apply Pn.out));refine wk (tw @b38 (tw @b0 (tw @b1 (tw @b5 (tw @Pt (tw @Pu @hi)))))) ?_;(repeat(refine Pn.mk ?_;intro N hN))))
  exact ft (.inl rfl) (vs:=[.ptr X 0 0]) (sd @Nat.zero_add) ⟨X,o1,o2,R1,R2,rfl,⟨I.sx,I.s1,I.s2,I.SN,I.M4,I.i1,I.i2,by have:=I.vx;(try dsimp only);omega,by have:=I.v1;(try dsimp only);omega,by have:=I.v2;(try dsimp only);omega,fun j hj=>by have:=I.SP j hj;(try dsimp only);omega,fun j hj=>by have:=I.P0 j hj;(try dsimp only);omega⟩,by(try dsimp only);omega,bM,Ns⟩
end Go.Proofs.YtgoelphibofcmaaGreat.V

namespace Go.Proofs.YtgoelphibofcmaaGreat.V
structure Bq (n:Nat) (c f:Nat->Nat->Int) (x:Nat) (par:Nat->Int) (Q:List Nat) (i:Nat):Prop where
 nodup:Q.Nodup
 lt:∀v∈Q,v<n
 root:par x=(x:Int)
 mem:x∈Q
 iff:∀v,v<n->(0<=par v↔v∈Q)
 up:∀v∈Q,v≠x->∃u,u∈Q/\par v=(u:Int)/\Q.idxOf u<Q.idxOf v/\f u v<c u v
 done:∀j (_:j<i) (hl:j<Q.length) (v:Nat),v<n->f Q[j] v<c Q[j] v->v∈Q
 ile:i<=Q.length
section
variable {n:Nat} {c f:Nat->Nat->Int} {x:Nat} {par:Nat->Int} {Q:List Nat} {i:Nat}
theorem Bq.len (h:Bq n c f x par Q i):Q.length<=n:=oH n Q h.nodup h.lt
theorem Bq.start (hx:x<n):Bq n c f x (fun v=>if v=x then(x:Int)else -1) [x] 0:=by
 refine⟨by simp,fun v hv=>by simp at hv;omega,by simp,by simp,fun v hv=>?_,fun v hv gU=>absurd (by simpa using hv) gU,fun j hj=>by omega,by simp⟩
 by_cases h:v=x
 ·simp[h]
 ·simp[h]
theorem Bq.visit (h:Bq n c f x par Q i) (hi:i<Q.length) {v:Nat} (hv:v<n) (hp:par v<0) (hr:f Q[i] v<c Q[i] v):Bq n c f x (fun w=>if w=v then(Q[i]:Int)else par w) (Q++[v]) i:=by
 have UC:v∉Q:=fun hm=>by have:=(h.iff v hv).2 hm;omega
 have UH:x≠v:=fun e=>UC (e▸h.mem)
 have zg:∀u∈Q,(Q++[v]).idxOf u=Q.idxOf u:=fun u hu=>by rw[List.idxOf_append,if_pos hu]
 have vn:(Q++[v]).idxOf v=Q.length:=by rw[List.idxOf_append,if_neg UC];simp
 refine⟨?_,fun w hw=>?_,by simp only[if_neg UH];exact h.root,by simp[h.mem],fun w hw=>?_,fun w hw gU=>?_,fun j hj hl w hw IS=>?_,by simp;omega⟩
 ·refine List.nodup_append.2 ⟨h.nodup,by simp,fun a ha b hb=>?_⟩
  rw[List.mem_singleton.1 hb]
  rintro rfl;exact UC ha
 ·rcases List.mem_append.1 hw with hw|hw
  ·exact h.lt w hw
  ·rw[List.mem_singleton.1 hw];exact hv
 ·by_cases E7:w=v
  ·subst E7;simp
  ·rw[if_neg E7,h.iff w hw];simp[E7]
 ·by_cases E7:w=v
  ·subst E7
   refine⟨Q[i],by simp,by simp,?_,hr⟩
   rw[zg _ (List.getElem_mem hi),vn]
   exact List.idxOf_lt_length_of_mem (List.getElem_mem hi)
  ·have hwQ:w∈Q:=by
    rcases List.mem_append.1 hw with hw|hw
    ·exact hw
    ·exact absurd (List.mem_singleton.1 hw) E7
   obtain⟨u,h1,h2,h3,h4⟩:=h.up w hwQ gU
   exact⟨u,by simp[h1],by rw[if_neg E7];exact h2,by rw[zg u h1,zg w hwQ];exact h3,h4⟩
 ·have gG:j<Q.length:=by have:=h.ile;omega
  rw[List.getElem_append_left gG]at IS
  exact List.mem_append_left _ (h.done j hj gG w hw IS)
theorem Bq.next (h:Bq n c f x par Q i) (hi:i<Q.length) (dL:∀v,v<n->f Q[i] v<c Q[i] v->0<=par v):Bq n c f x par Q (i+1):=by
 refine⟨h.nodup,h.lt,h.root,h.mem,h.iff,h.up,fun j hj hl v hv hr=>?_,by omega⟩
 by_cases mj:j=i
 ·subst mj;exact(h.iff v hv).1 (dL v hv hr)
 ·exact h.done j (by omega) hl v hv hr
theorem Bq.cut (h:Bq n c f x par Q Q.length) {y:Nat} (hy:y<n) (hp:par y<0):∃S:Nat->Bool,S x=true/\S y=false/\∀u v,u<n->v<n->S u=true->S v=false->¬f u v<c u v:=by
 refine⟨fun v=>decide (v∈Q),by simp[h.mem],?_,fun u v hu hv h1 h2 hr=>?_⟩
 ·have:y∉Q:=fun hm=>by have:=(h.iff y hy).2 hm;omega
  simp[this]
 ·simp only[decide_eq_true_eq,decide_eq_false_iff_not]at h1 h2
  obtain⟨j,hj,rfl⟩:=List.getElem_of_mem h1
  exact h2 (h.done j hj hj v hv hr)
def uz (c f:Nat->Nat->Int) (Q:List Nat) (y k:Nat) (out:List Nat):Prop:=∃rest,out.reverse=k::rest/\(k::rest).getLast (by simp)=y/\qP f c (k::rest)/\(k::rest).Pairwise (fun a b=>Q.idxOf a<Q.idxOf b)/\∀v∈k::rest,v∈Q
theorem uz.start {y:Nat} (hy:y∈Q):uz c f Q y y [y]:=⟨[],rfl,rfl,trivial,by simp,by simpa using hy⟩
theorem uz.step {y k u:Nat} {out:List Nat} (h:uz c f Q y k out) (hu:u∈Q) (hi:Q.idxOf u<Q.idxOf k) (hr:f u k<c u k):uz c f Q y u (out++[u]):=by
 obtain⟨rest,h1,h2,h3,h4,h5⟩:=h
 refine⟨k::rest,by rw[List.reverse_append,h1];rfl,by rw[List.getLast_cons (by simp)];exact h2,⟨hr,h3⟩,?_,?_⟩
 ·refine List.pairwise_cons.2 ⟨fun b hb=>?_,h4⟩
  rcases List.mem_cons.1 hb with rfl|hb
  ·exact hi
  ·have:=(List.pairwise_cons.1 h4).1 b hb;omega
 ·intro v hv
  rcases List.mem_cons.1 hv with rfl|hv
  ·exact hu
  ·exact h5 v hv
theorem uz.len {y k:Nat} {out:List Nat} (h:uz c f Q y k out) (hq:∀v∈Q,v<n):out.length<=n:=by
 obtain⟨rest,h1,_,_,h4,h5⟩:=h
 rw[<-List.length_reverse,h1]
 refine oH n _ (h4.imp fun dP he=>?_) fun v hv=>hq v (h5 v hv)
 subst he;omega
structure P7 (n:Nat) (c f:Nat->Nat->Int) (x y:Nat) (p:List Nat):Prop where
 way:∃r,p=x::r/\(x::r).getLast (by simp)=y
 nodup:p.Nodup
 room:qP f c p
 lt:∀v∈p,v<n
theorem uz.way {y:Nat} {out:List Nat} (h:uz c f Q y x out) (hq:∀v∈Q,v<n):P7 n c f x y out.reverse:=by
 obtain⟨rest,h1,h2,h3,h4,h5⟩:=h
 rw[h1]
 exact⟨⟨rest,rfl,h2⟩,h4.imp fun dP he=>by subst he;omega,h3,fun v hv=>hq v (h5 v hv)⟩
end
end Go.Proofs.YtgoelphibofcmaaGreat.V

namespace Go.Proofs.YtgoelphibofcmaaGreat.V
open Go.RowKit
attribute [local irreducible] eb wpOps gj Call
attribute [local go_sem] aJ fM eP fZ fY cL upd cu K.av cN AV.cells AV.cell rowOf rowsOf part ld rowAt bI bW dD ee gT bL dc ev fU eY dr ej da cZ dO dR bR aX cR bQ cV cU eh ek ei cQ bV db ef bP aP cX cE gS bw cJ bU aW dx bj dE AV.undef bD bF dV ec dI dS cF eu eB cD ep eo cW cY List.getD_cons_zero List.getD_cons_succ List.getD_nil List.all_cons List.all_nil Bool.and_true Bool.true_and Bool.and_self Bool.not_true Bool.not_false Option.map_some Option.map_none Option.bind_some Option.bind_none List.length_cons List.length_nil List.take_succ_cons List.take_zero List.take_nil List.drop_succ_cons List.drop_zero List.drop_nil List.head?_cons List.map_cons List.map_nil List.getElem?_cons_zero List.getElem?_cons_succ List.cons_append List.nil_append List.append_nil List.length_map List.set_cons_zero List.set_cons_succ Nat.reduceMul eq_self Int.toNat_natCast Int.natCast_nonneg and_self true_and and_true decide_true decide_false Bool.false_eq_true Nat.zero_add Nat.add_zero List.contains_cons List.contains_nil Bool.or_false Bool.false_or beq_self_eq_true Nat.reduceBEq ne_eq not_true_eq_false not_false_eq_true Id.mk.injEq false_and and_false Nat.reduceLT Int.reduceLE Int.reduceLT Int.reduceToNat Int.reduceNeg Int.reduceAdd Nat.le_refl List.length_append beq_true beq_false Bool.not_eq_eq_eq_not or_false false_or dM aj aq aH bd bz ck aU bf aT aZ cP bH
def lI (l:List Nat) (i x:Nat):Nat:=if x<i∨l.length-i<=x then l.getD (l.length-1-x) 0 else l.getD x 0
theorem yz (l:List Nat):l.map eN=dB (fun x=>l.getD x 0) l.length:=by
 refine List.ext_getElem? fun i=>?_
 by_cases h:i<l.length
 ·rw[fm h,List.getElem?_map,List.getElem?_eq_getElem h];simp[List.getD_eq_getElem?_getD,h]
 ·rw[List.getElem?_eq_none (by simp;omega),List.getElem?_eq_none (by rw[fW];omega)]
theorem GX (l:List Nat):dB (lI l 0) l.length=l.map eN:=by
 rw[yz]
 exact gN fun x hx=>by unfold lI;rw[if_neg (by omega)]
theorem JB (l:List Nat) {i:Nat} (h:l.length<=2*i+1) (hi:i<=l.length):dB (lI l i) l.length=l.reverse.map eN:=by
 rw[yz l.reverse,List.length_reverse]
 refine gN fun x hx=>?_
 have hr:l.reverse.getD x 0=l.getD (l.length-1-x) 0:=by
  rw[List.getD_eq_getElem?_getD,List.getElem?_reverse hx,List.getD_eq_getElem?_getD]
 rw[hr]
 unfold lI
 by_cases hc:x<i∨l.length-i<=x
 ·rw[if_pos hc]
 ·rw[if_neg hc]
  have:x=l.length-1-x:=by omega
  rw[<-this]
theorem GY (l:List Nat) (hp:0<l.length) (hl:l.length<=1048576) (o:Id) (σ:au) (ho:σ.get o=some ⟨true,1,l.map eN⟩) (rD:o.bm<σ.next):
  Call Tryz.prog 273 [.own o 0 l.length] σ fun r σ'=>σ'.get o=some ⟨true,1,l.reverse.map eN⟩/\σ.next<=σ'.next/\∀i:Id,i.bm<σ.next->(i=o)=False->σ'.get i=σ.get i:=by
 refine eU eJ rfl fun mM=>?_
 clear mM
 rw[<-GX]at ho
 have SI:IntKind.i64.wrap ((l.length:Int)-1)=((l.length-1:Nat):Int):=by rw[bh (by omega)];omega
 (try((repeat(revert hN;revert N;apply Pn.out));refine wk @SI ?_;(repeat(refine Pn.mk ?_;intro N hN))))
 refine aO (fun m env st=>∃i:Nat,m=l.length-i/\2*i<=l.length+1/\i<=l.length/\env 2=.int .i64 (i:Int)/\env 3=.int .i64 ((l.length:Int)-1-i)/\st.get o=some ⟨true,1,dB (lI l i) l.length⟩/\σ.next<=st.next/\∀x:Id,x.bm<σ.next->(x=o)=False->st.get x=σ.get x) l.length ⟨0,rfl,by omega,by omega,by(simp only[go_sem, ↓reduceIte,Nat.reduceEqDiff,Nat.reduceAdd,Nat.reduceSub,Nat.reduceLeDiff,reduceCtorEq])<;>rfl,by(simp only[go_sem, ↓reduceIte,Nat.reduceEqDiff,Nat.reduceAdd,Nat.reduceSub,Nat.reduceLeDiff,reduceCtorEq,SI]);congr 1;omega,ho,by(try dsimp only);omega,fun x _ _=>rfl⟩ ?_
 rintro m env_b st_b ⟨i,rfl,xS,nz,b2,b3,bg,bn,eV⟩ bkp
 have b0:=bkp 0 (by kernel_rfl)
 simp only[go_sem, ↓reduceIte,Nat.reduceEqDiff,Nat.reduceAdd,Nat.reduceSub,Nat.reduceLeDiff,reduceCtorEq]at b0
 clear bkp
 have tl:=fW (lI l i) l.length
 have kr:=dz (i:=o) (n:=st_b.next) (by omega)
 by_cases hi:(i:Int)<(l.length:Int)-1-i
 ·have fI:i<l.length:=by omega
  obtain⟨j,hj⟩:∃j,j=l.length-1-i:=⟨_,rfl⟩
  have ia:j<l.length:=by omega
  have K3:(l.length:Int)-1-i=(j:Int):=by omega
  rw[K3]at b3 hi
  have g1:=fm (f:=lI l i) fI
  have g2:=fm (f:=lI l i) ia
  have e1:lI l i i=l.getD i 0:=by unfold lI;rw[if_neg (by omega)]
  have e2:lI l i j=l.getD j 0:=by unfold lI;rw[if_neg (by omega)]
  have MP:(dB (lI l i) l.length).set i (eN (l.getD j 0))=dB (fun x=>if x=i then l.getD j 0 else lI l i x) l.length:=pg fI (if_pos rfl) fun x _ hx=>if_neg hx
  have IT:(dB (fun x=>if x=i then l.getD j 0 else lI l i x) l.length).set j (eN (l.getD i 0))=dB (lI l (i+1)) l.length:=pg ia (by unfold lI;rw[if_pos (by omega)];congr 1;omega) fun x hx PU=>by
   by_cases CC:x=i
   ·rw[if_pos CC];unfold lI;rw[if_pos (by omega)];congr 1;omega
   ·rw[if_neg CC];unfold lI
    by_cases hc:x<i∨l.length-i<=x
    ·rw[if_pos hc,if_pos (by omega)]
    ·rw[if_neg hc,if_neg (by omega)]
  have SO:=fW (fun x=>if x=i then l.getD j 0 else lI l i x) l.length
  have g3:=fm (f:=fun x=>if x=i then l.getD j 0 else lI l i x) ia
  rw[e1]at g1
  rw[e2]at g2
  rw[if_neg (by omega),e2]at g3
  rw[eN]at g1 g2 g3 MP IT
  have hii:(i:Int)<(l.length:Int):=by omega
  have mj:(j:Int)<(l.length:Int):=by omega
  have mN:IntKind.i64.wrap ((i:Int)+1)=((i+1:Nat):Int):=az (by omega)
  have sL:IntKind.i64.wrap ((j:Int)-1)=(l.length:Int)-1-((i+1:Nat):Int):=by rw[bh (by omega)];omega
  (try((repeat(revert hN;revert N;apply Pn.out));refine wk (tw @b0 (tw @b2 (tw @b3 (tw @bg (tw @hi (tw @hii (tw @mj (tw @g1 (tw @g2 (tw @g3 (tw @MP (tw @IT (tw @tl (tw @SO (tw @kr (tw @mN @sL)))))))))))))))) ?_;(repeat(refine Pn.mk ?_;intro N hN))))
  refine⟨_,?_,i+1,rfl,by omega,by omega,sd @mN,sd @sL,sd @IT,by(try dsimp only);omega,fun x hx Al=>?_⟩
  ·omega
  ·have:=eV x hx Al
   simp only[go_sem, ↓reduceIte,Nat.reduceEqDiff,Nat.reduceAdd,Nat.reduceSub,Nat.reduceLeDiff,reduceCtorEq,Al,this]
 ·rw[JB l (by omega) nz]at bg
  (try((repeat(revert hN;revert N;apply Pn.out));refine wk (tw @b0 (tw @b2 (tw @b3 (tw @bg @hi)))) ?_;(repeat(refine Pn.mk ?_;intro N hN))))
  exact ft (.inr rfl) (vs:=[]) (by simp only[fu,go_sem, ↓reduceIte,Nat.reduceEqDiff,Nat.reduceAdd,Nat.reduceSub,Nat.reduceLeDiff,reduceCtorEq]) ⟨bg,by(try dsimp only);omega,eV⟩
end Go.Proofs.YtgoelphibofcmaaGreat.V

namespace Go.Proofs.YtgoelphibofcmaaGreat.V
open Go.RowKit
attribute [local irreducible] eb wpOps gj Call
attribute [local go_sem] aJ fM eP fZ fY cL upd cu K.av cN AV.cells AV.cell rowOf rowsOf part ld rowAt bI bW dD ee gT bL dc ev fU eY dr ej da cZ dO dR bR aX cR bQ cV cU eh ek ei cQ bV db ef bP aP cX cE gS bw cJ bU aW dx bj dE AV.undef bD bF dV ec dI dS cF eu eB cD ep eo cW cY List.getD_cons_zero List.getD_cons_succ List.getD_nil List.all_cons List.all_nil Bool.and_true Bool.true_and Bool.and_self Bool.not_true Bool.not_false Option.map_some Option.map_none Option.bind_some Option.bind_none List.length_cons List.length_nil List.take_succ_cons List.take_zero List.take_nil List.drop_succ_cons List.drop_zero List.drop_nil List.head?_cons List.map_cons List.map_nil List.getElem?_cons_zero List.getElem?_cons_succ List.cons_append List.nil_append List.append_nil List.length_map List.set_cons_zero List.set_cons_succ Nat.reduceMul eq_self Int.toNat_natCast Int.natCast_nonneg and_self true_and and_true decide_true decide_false Bool.false_eq_true Nat.zero_add Nat.add_zero List.contains_cons List.contains_nil Bool.or_false Bool.false_or beq_self_eq_true Nat.reduceBEq ne_eq not_true_eq_false not_false_eq_true Id.mk.injEq false_and and_false Nat.reduceLT Int.reduceLE Int.reduceLT Int.reduceToNat Int.reduceNeg Int.reduceAdd Nat.le_refl List.length_append beq_true beq_false Bool.not_eq_eq_eq_not or_false false_or dM aj aq aH bd bz ck aU bf aT aZ cP bH
theorem RF (cnt:Nat) (zi:1<=cnt) (hn:cnt<=1048576) (c f:Nat->Nat->Int) (x y:Nat) (hx:x<cnt) (hy:y<cnt):
  lO Tryz.prog 266 [.dj (lq cnt c f),.int .i64 x,.int .i64 y] fun r=>(r=.cr/\∃S:Nat->Bool,S x=true/\S y=false/\∀u v,u<cnt->v<cnt->S u=true->S v=false->¬f u v<c u v)∨∃p:List Nat,r=.sl (p.map eN)/\P7 cnt c f x y p:=by
 refine lO.body eJ rfl fun hl n0=>?_
 clear hl
 have lM:=wJ c cnt
 have jA:(0:Int)<=(cnt:Int):=by omega
 have CC:(x:Int)<(cnt:Int):=by omega
 have SL:(y:Int)<(cnt:Int):=by omega
 (try((repeat(revert hN;revert N;apply Pn.out));refine wk (tw @lq.eq_1 @lM) ?_;(repeat(refine Pn.mk ?_;intro N hN))))
 refine .inr (aL _ _ _ _ _ (fun r σ1 hq=>?_) (Jz cnt zi hn (-1) ⟨266002000,n0+1+1⟩ _ (sd @Nat.zero_add) (by(try dsimp only);omega)))
 obtain⟨o,rfl,ho,Ld,Le,lW⟩:=hq
 (try dsimp only at ho Ld Le lW)
 refine hN _ _ ?_
 clear hN N
 have kr:=dz Le
 have pE:(cnt:Int)<=1048576:=by omega
 have QF:qh<qh+cnt:=by omega
 have gO:List.replicate cnt [AV.int .i64 (-1)]=dU (fun _=>-1) cnt:=by
  refine List.ext_getElem? fun i=>?_
  by_cases h:i<cnt
  ·rw[dJ h,List.getElem?_replicate,if_pos h];rfl
  ·rw[List.getElem?_eq_none (by simp;omega),List.getElem?_eq_none (by rw[dy];omega)]
 rw[gO]at ho
 have Bn:(dU (fun _=>-1) cnt).set x (aG (x:Int))=dU (fun v=>if v=x then(x:Int)else -1) cnt:=kZ hx (if_pos rfl) fun v _ hv=>if_neg hv
 have hg0:=dJ (f:=fun _=>-1) hx
 have tl0:=dy (fun _=>-1) cnt
 rw[aG]at Bn hg0
 (try((repeat(revert hN;revert N;apply Pn.out));refine wk (tw @lq.eq_1 (tw @lM (tw @jA (tw @pE @kr)))) ?_;(repeat(refine Pn.mk ?_;intro N hN))))
 refine J4 ?_
 simp only[go_sem, ↓reduceIte,Nat.reduceEqDiff,Nat.reduceAdd,Nat.reduceSub,Nat.reduceLeDiff,reduceCtorEq,QF]
 refine hN _ _ ?_
 clear hN N
 (try((repeat(revert hN;revert N;apply Pn.out));refine wk (tw @ho (tw @kr (tw @Bn (tw @hg0 (tw @tl0 @CC))))) ?_;(repeat(refine Pn.mk ?_;intro N hN))))
 obtain⟨C,hC⟩:∃C:Id,C=⟨266003001,σ1.next+1⟩:=⟨_,rfl⟩
 have QY:=dq (a:=o) (b:=C) (by rw[hC];(try dsimp only);omega)
 have hCv:C.bm=σ1.next+1:=by rw[hC]
 refine aO (fun m env st=>∃(par:Nat->Int) (Q:List Nat) (i:Nat),m=cnt-i/\Bq cnt c f x par Q i/\st.get o=some ⟨true,1,dU par cnt⟩/\st.get C=some ⟨true,qh+cnt,(Q.drop i).map eN⟩/\σ1.next+1<st.next) cnt ⟨_,[x],0,rfl,Bq.start hx,sd @kr,by rw[hC];simp only[go_sem, ↓reduceIte,Nat.reduceEqDiff,Nat.reduceAdd,Nat.reduceSub,Nat.reduceLeDiff,reduceCtorEq,kr];rfl,by(try dsimp only);omega⟩ ?_
 rintro m env_b st_b ⟨par,Q,i,rfl,hB,bgo,bgC,bn⟩ bkp
 have b0:=bkp 0 (by kernel_rfl)
 have b1:=bkp 1 (by kernel_rfl)
 have b2:=bkp 2 (by kernel_rfl)
 have b7:=bkp 7 (by kernel_rfl)
 have b8:=bkp 8 (by kernel_rfl)
 have b9:=bkp 9 (by kernel_rfl)
 rw[<-hC]at b9
 simp only[go_sem, ↓reduceIte,Nat.reduceEqDiff,Nat.reduceAdd,Nat.reduceSub,Nat.reduceLeDiff,reduceCtorEq]at b0 b1 b2 b7 b8 b9
 clear bkp
 have hQn:=hB.len
 have nz:=hB.ile
 have Sm:((Q.drop i).map eN).length=Q.length-i:=by simp
 by_cases hi:i<Q.length
 ·have lf:(0:Int)<((Q.length-i:Nat):Int):=by omega
  have sb:Q.drop i=Q[i]::Q.drop (i+1):=List.drop_eq_getElem_cons hi
  obtain⟨u,hu⟩:∃u,u=Q[i]:=⟨_,rfl⟩
  have hun:u<cnt:=by rw[hu];exact hB.lt _ (List.getElem_mem hi)
  rw[<-hu]at sb
  (try((repeat(revert hN;revert N;apply Pn.out));refine wk (tw @b0 (tw @b1 (tw @b2 (tw @b7 (tw @b8 (tw @b9 (tw @bgC (tw @Sm @lf)))))))) ?_;(repeat(refine Pn.mk ?_;intro N hN))))
  refine J4 ?_
  rw[sb,List.map_cons,show eN u=[.int .i64 (u:Int)]from rfl]at bgC
  simp only[go_sem, ↓reduceIte,Nat.reduceEqDiff,Nat.reduceAdd,Nat.reduceSub,Nat.reduceLeDiff,reduceCtorEq,b9,bgC]
  refine hN _ _ ?_
  clear hN N
  (try((repeat(revert hN;revert N;apply Pn.out));refine wk @b7 ?_;(repeat(refine Pn.mk ?_;intro N hN))))
  refine aO (fun m env st=>∃(v:Nat) (par':Nat->Int) (Q':List Nat),m=cnt-v/\v<=cnt/\env 36=.int .i64 (v:Int)/\Bq cnt c f x par' Q' i/\(∃h:i<Q'.length,Q'[i]=u)/\st.get o=some ⟨true,1,dU par' cnt⟩/\st.get C=some ⟨true,qh+cnt,(Q'.drop (i+1)).map eN⟩/\σ1.next+1<st.next/\∀w,w<v->f u w<c u w->0<=par' w) cnt ⟨0,par,Q,rfl,Nat.zero_le _,by(simp only[go_sem, ↓reduceIte,Nat.reduceEqDiff,Nat.reduceAdd,Nat.reduceSub,Nat.reduceLeDiff,reduceCtorEq])<;>rfl,hB,⟨hi,hu.symm⟩,sd (tw @QY @bgo),sd @QY,by(try dsimp only);omega,fun w hw=>absurd hw (Nat.not_lt_zero w)⟩ ?_
  rintro m env_c st_c ⟨v,par',Q',rfl,hvn,c36,dC,⟨qM,E6⟩,xF,cgC,cn,dL⟩ ckp
  have c0:=ckp 0 (by kernel_rfl)
  have c1:=ckp 1 (by kernel_rfl)
  have c2:=ckp 2 (by kernel_rfl)
  have c7:=ckp 7 (by kernel_rfl)
  have c8:=ckp 8 (by kernel_rfl)
  have c9:=ckp 9 (by kernel_rfl)
  have jq:=ckp 10 (by kernel_rfl)
  have Nv:=ckp 35 (by kernel_rfl)
  simp only[go_sem, ↓reduceIte,Nat.reduceEqDiff,Nat.reduceAdd,Nat.reduceSub,Nat.reduceLeDiff,reduceCtorEq,b0,b1,b2,b7,b8,b9]at c0 c1 c2 c7 c8 c9 jq Nv
  clear ckp
  have tl:=dy par' cnt
  by_cases hv:(v:Int)<(cnt:Int)
  ·have Dz:v<cnt:=by omega
   have N5:=dJ (f:=par') Dz
   have lW:=NH cnt c f u v hun Dz
   have hw:IntKind.i64.wrap ((v:Int)+1)=((v+1:Nat):Int):=az (by omega)
   rw[aG]at N5
   rw[lq]at lW
   by_cases jU:par' v<0
   ·by_cases hr:f u v<c u v
    ·rw[decide_eq_true hr]at lW
     have dQ:(dU par' cnt).set v (aG (u:Int))=dU (fun w=>if w=v then(u:Int)else par' w) cnt:=kZ Dz (if_pos rfl) fun w _ hw=>if_neg hw
     rw[aG]at dQ
     have pD:=dC.visit qM Dz jU (by rw[E6];exact hr)
     rw[E6]at pD
     have hQ2:=pD.len
     rw[List.length_append]at hQ2
     simp only[List.length_singleton]at hQ2
     have fP:qh+(Q'.drop (i+1)).length<qh+cnt:=by rw[List.length_drop];omega
     (repeat(first|((repeat(revert hN;revert N;apply Pn.out));refine wk (tw @lq.eq_1 (tw @c0 (tw @c7 (tw @c8 (tw @c9 (tw @jq (tw @c36 (tw @Nv (tw @hv (tw @xF (tw @N5 (tw @tl (tw @jU @dQ))))))))))))) ?_;(repeat(refine Pn.mk ?_;intro N hN)))|((try apply Or.inl);refine⟨_,ar.x (lW) (sd (tw @lq.eq_1 (tw @c0 (tw @c7 (tw @c8 (tw @c9 (tw @jq (tw @c36 (tw @Nv (tw @hv (tw @xF (tw @N5 (tw @tl (tw @jU @dQ)))))))))))))),?_⟩;refine hN _ _ ?_;clear hN N)))
     refine J4 ?_
     have hq:(Q'.drop (i+1)).map eN++[[.int .i64 (v:Int)]]=((Q'++[v]).drop (i+1)).map eN:=by rw[List.drop_append_of_le_length (by omega),List.map_append];rfl
     simp only[go_sem, ↓reduceIte,Nat.reduceEqDiff,Nat.reduceAdd,Nat.reduceSub,Nat.reduceLeDiff,reduceCtorEq,c9,cgC,fP,QY,hq]
     refine hN _ _ ?_
     clear hN N
     (try((repeat(revert hN;revert N;apply Pn.out));refine wk (tw @c36 @hw) ?_;(repeat(refine Pn.mk ?_;intro N hN))))
     refine⟨_,?_,v+1,_,_,rfl,Dz,sd @hw,pD,⟨by rw[List.length_append];omega,by rw[List.getElem_append_left qM];exact E6⟩,sd @QY,sd @QY,by(try dsimp only);omega,fun w hw IS=>?_⟩
     ·omega
     ·by_cases E7:w=v
      ·rw[if_pos E7];omega
      ·rw[if_neg E7];exact dL w (by omega) IS
    ·rw[decide_eq_false hr]at lW
     (repeat(first|((repeat(revert hN;revert N;apply Pn.out));refine wk (tw @lq.eq_1 (tw @c0 (tw @c7 (tw @c8 (tw @c9 (tw @jq (tw @c36 (tw @Nv (tw @hv (tw @xF (tw @N5 (tw @tl (tw @jU @hw))))))))))))) ?_;(repeat(refine Pn.mk ?_;intro N hN)))|((try apply Or.inl);refine⟨_,ar.x (lW) (sd (tw @lq.eq_1 (tw @c0 (tw @c7 (tw @c8 (tw @c9 (tw @jq (tw @c36 (tw @Nv (tw @hv (tw @xF (tw @N5 (tw @tl (tw @jU @hw)))))))))))))),?_⟩;refine hN _ _ ?_;clear hN N)))
     refine⟨_,?_,v+1,par',Q',rfl,Dz,sd @hw,dC,⟨qM,E6⟩,sd @xF,sd @cgC,by(try dsimp only);omega,fun w hw IS=>?_⟩
     ·omega
     ·by_cases E7:w=v
      ·subst E7;exact absurd IS hr
      ·exact dL w (by omega) IS
   ·(try((repeat(revert hN;revert N;apply Pn.out));refine wk (tw @lq.eq_1 (tw @c0 (tw @c7 (tw @c8 (tw @c9 (tw @jq (tw @c36 (tw @Nv (tw @hv (tw @xF (tw @N5 (tw @tl (tw @jU @hw))))))))))))) ?_;(repeat(refine Pn.mk ?_;intro N hN))))
    refine⟨_,?_,v+1,par',Q',rfl,Dz,sd @hw,dC,⟨qM,E6⟩,sd @xF,sd @cgC,by(try dsimp only);omega,fun w hw IS=>?_⟩
    ·omega
    ·by_cases E7:w=v
     ·subst E7;omega
     ·exact dL w (by omega) IS
  ·have UE:v=cnt:=by omega
   subst UE
   (try((repeat(revert hN;revert N;apply Pn.out));refine wk (tw @c36 (tw @Nv @hv)) ?_;(repeat(refine Pn.mk ?_;intro N hN))))
   refine⟨_,?_,par',Q',i+1,rfl,dC.next qM fun w hw hr=>dL w hw (by rw[<-E6];exact hr),sd @xF,sd @cgC,by(try dsimp only);omega⟩
   omega
 ·have hiQ:i=Q.length:=by omega
  subst hiQ
  have lf:¬(0:Int)<((Q.length-Q.length:Nat):Int):=by omega
  have T9:=dJ (f:=par) hy
  have tl:=dy par cnt
  rw[aG]at T9
  by_cases jU:par y<0
  ·(try((repeat(revert hN;revert N;apply Pn.out));refine wk (tw @b0 (tw @b1 (tw @b2 (tw @b7 (tw @b8 (tw @b9 (tw @bgC (tw @Sm (tw @lf (tw @bgo (tw @T9 (tw @tl (tw @SL @jU))))))))))))) ?_;(repeat(refine Pn.mk ?_;intro N hN))))
   exact⟨[.cr],sd @Nat.zero_add,.cr,kE _ _,.inl ⟨rfl,hB.cut hy jU⟩⟩
  ·(try((repeat(revert hN;revert N;apply Pn.out));refine wk (tw @b0 (tw @b1 (tw @b2 (tw @b7 (tw @b8 (tw @b9 (tw @bgC (tw @Sm (tw @lf (tw @bgo (tw @T9 (tw @tl (tw @SL @jU))))))))))))) ?_;(repeat(refine Pn.mk ?_;intro N hN))))
   refine aO (fun m env st=>∃(k:Nat) (out:List Nat) (p:Id),m=Q.idxOf k/\env 13=.int .i64 (k:Int)/\env 12=.own p 0 out.length/\st.get p=some ⟨true,1,out.map eN⟩/\p.bm<st.next/\st_b.next<=p.bm/\k∈Q/\uz c f Q y k out/\st.get o=some ⟨true,1,dU par cnt⟩) (Q.idxOf y) ⟨y,[y],⟨266017001,st_b.next+1+1⟩,rfl,by(simp only[go_sem, ↓reduceIte,Nat.reduceEqDiff,Nat.reduceAdd,Nat.reduceSub,Nat.reduceLeDiff,reduceCtorEq]),by(simp only[go_sem, ↓reduceIte,Nat.reduceEqDiff,Nat.reduceAdd,Nat.reduceSub,Nat.reduceLeDiff,reduceCtorEq])<;>rfl,by(simp only[go_sem, ↓reduceIte,Nat.reduceEqDiff,Nat.reduceAdd,Nat.reduceSub,Nat.reduceLeDiff,reduceCtorEq])<;>rfl,by(try dsimp only);omega,by(try dsimp only);omega,(hB.iff y hy).1 (by omega),uz.start ((hB.iff y hy).1 (by omega)),by(have PS:=dz (i:=o) (n:=st_b.next) (by omega));simp only[go_sem, ↓reduceIte,Nat.reduceEqDiff,Nat.reduceAdd,Nat.reduceSub,Nat.reduceLeDiff,reduceCtorEq,PS,bgo]⟩ ?_
   rintro m env_d st_d ⟨k,out,p,rfl,d13,d12,dgp,dpn,dpo,hkQ,uk,dgo⟩ dkp
   have d1:=dkp 1 (by kernel_rfl)
   have d8:=dkp 8 (by kernel_rfl)
   simp only[go_sem, ↓reduceIte,Nat.reduceEqDiff,Nat.reduceAdd,Nat.reduceSub,Nat.reduceLeDiff,reduceCtorEq,b1,b8]at d1 d8
   clear dkp
   have Aj:=dz dpn
   have Bt:=dz (i:=o) (n:=st_d.next) (by omega)
   have dG:=dq (a:=o) (b:=p) (by omega)
   have hol:=uk.len hB.lt
   have fa:=hB.lt k hkQ
   have lY:(out.map eN).length=out.length:=by simp
   by_cases Ss:k=x
   ·have hd:decide ((k:Int)=(x:Int))=true:=decide_eq_true (by rw[Ss])
    have Ut:0<out.length:=by
     obtain⟨rest,h1,_⟩:=uk
     rw[<-List.length_reverse,h1];simp
    (try((repeat(revert hN;revert N;apply Pn.out));refine wk (tw @d1 (tw @d8 (tw @d12 (tw @d13 (tw @hd @Bool.not_true))))) ?_;(repeat(refine Pn.mk ?_;intro N hN))))
    refine .inr (aL _ _ _ _ _ (fun r σ2 hq=>?_) (GY out Ut (by omega) p _ dgp (by(try dsimp only);omega)))
    obtain⟨N2,mL,IE⟩:=hq
    refine hN _ _ ?_
    clear hN N
    (try((repeat(revert hN;revert N;apply Pn.out));refine wk @d12 ?_;(repeat(refine Pn.mk ?_;intro N hN))))
    refine⟨[.own p 0 out.length],sd @d12,.sl (out.reverse.map eN),?_,.inr ⟨out.reverse,rfl,by subst Ss;exact uk.way hB.lt⟩⟩
    exact fB (sz:=1) N2 (by simp) fun a=>NI _ 4 a
   ·have hd:decide ((k:Int)=(x:Int))=false:=decide_eq_false fun h=>Ss (by omega)
    obtain⟨u,huQ,hpu,zg,hr⟩:=hB.up k hkQ Ss
    have eR:=dJ (f:=par) fa
    rw[aG,hpu]at eR
    have hki:(k:Int)<(cnt:Int):=by omega
    have e1:out.length+1<=16777216:=by omega
    (try((repeat(revert hN;revert N;apply Pn.out));refine wk (tw @d1 (tw @d8 (tw @d12 (tw @d13 (tw @hd (tw @Bool.not_false (tw @dgo (tw @dgp (tw @eR (tw @tl (tw @hki (tw @Aj (tw @Bt (tw @dG (tw @lY @e1))))))))))))))) ?_;(repeat(refine Pn.mk ?_;intro N hN))))
    refine⟨_,zg,u,out++[u],⟨266021003,st_d.next+1+1⟩,rfl,sd @Nat.zero_add,by rw[List.length_append];simp only[go_sem, ↓reduceIte,Nat.reduceEqDiff,Nat.reduceAdd,Nat.reduceSub,Nat.reduceLeDiff,reduceCtorEq,List.length_cons,List.length_nil],by rw[List.map_append,List.map_cons,List.map_nil];simp only[go_sem, ↓reduceIte,Nat.reduceEqDiff,Nat.reduceAdd,Nat.reduceSub,Nat.reduceLeDiff,reduceCtorEq,eN],by(try dsimp only);omega,by(try dsimp only);omega,huQ,uk.step huQ zg hr,sd (tw @Bt (tw @dG @dgo))⟩
end Go.Proofs.YtgoelphibofcmaaGreat.V
