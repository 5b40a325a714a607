/- The points next to an assembly, and the first wrong tile, by the reference. -/
import Derived.Test.YtgoljkjaameagaaGreatGsD
import Derived.Test.YtgoljkjaameagaaGreatGsB
import Derived.Test.YtgoljkjaameagaaGreatGsC
import Derived.Maps.RangeRun
import Derived.RangeFuncCalls
import Derived.OrdersIn
import Derived.RangeFuncNested
import Derived.RangeFuncBound
import Derived.RangeFuncLeaves
import Derived.Shelf.Abstract
import Derived.Shelf.RegionOpen
import Derived.WalkKit
import Derived.OwnWalkIn
import Derived.TacticsInMore
import Derived.LoopNIn
import Derived.LoopIn
import Derived.BigQuiet
import Derived.RangeFuncBox
import Derived.RangeFuncWrites
import Derived.Maps.AppendAt
import Derived.Maps.OwnIn
import Derived.Shelf.SlSortCmp.WholeK
import Derived.Shelf.SlSortCmp.NoneTotal
import Derived.Ground.SlsfProg
import Derived.Test.YtgoljkjaameagaaGreatProg
set_option linter.unusedVariables false
set_option linter.unusedSimpArgs false
set_option maxRecDepth 100000
set_option maxHeartbeats 16000000
namespace Go.Proofs.YtgoljkjaameagaaGreat.V
open Go.RowKit
attribute [local irreducible] dK wpOps gw Call
attribute [local go_sem] aM fE eM fV fS dc upd cr K.av cI AV.cells AV.cell rowOf rowsOf part ld rowAt bE cj dy dS gU bJ cY ee fQ e6 dp dX cW cV dI dJ bP bc cL bL cP cN dV dY dW cK bU cX dU bK aO cR cC gT bw cG bQ aY dj aZ dz AV.undef bD bG dM dQ dE dG cE ec eh cz ea dZ cQ cU List.getD_cons_zero List.getD_cons_succ List.getD_nil List.all_cons List.all_nil Bool.and_true Bool.true_and Bool.and_self Bool.not_true Bool.not_false Option.map_some Option.map_none Option.bind_some Option.bind_none List.length_cons List.length_nil List.take_succ_cons List.take_zero List.take_nil List.drop_succ_cons List.drop_zero List.drop_nil List.head?_cons List.map_cons List.map_nil List.getElem?_cons_zero List.getElem?_cons_succ List.cons_append List.nil_append List.append_nil List.length_map List.set_cons_zero List.set_cons_succ Nat.reduceMul eq_self Int.toNat_natCast Int.natCast_nonneg and_self true_and and_true decide_true decide_false Bool.false_eq_true Nat.zero_add Nat.add_zero List.contains_cons List.contains_nil Bool.or_false Bool.false_or beq_self_eq_true Nat.reduceBEq ne_eq not_true_eq_false not_false_eq_true Id.mk.injEq false_and and_false Nat.reduceLT Int.reduceLE Int.reduceLT Int.reduceToNat Int.reduceNeg Int.reduceAdd Nat.le_refl List.length_append beq_true beq_false Bool.not_eq_eq_eq_not or_false false_or dH aj ar aH bh bz ck aV bd aX bf cJ bB
def jS (l:List aa) (ps:List aq) (q:aq):List aq:=if zd q=true/\eG l q<0 then re ps q else ps
def fq (l:List aa) (ps:List aq) (p:aq):Nat->List aq
 |0=>ps
 |d+1=>jS l (fq l ps p d) (bt p d)
def eW (l:List aa):Nat->List aq
 |0=>[]
 |i+1=>fq l (eW l i) (aL l i).aJ 4
def jv (l:List aa):List aq:=eW l l.length
theorem BV {l:List aa} {ps:List aq} (h:nq ps) (q:aq):nq (jS l ps q):=by
 unfold jS;split
 ·exact MS h q
 ·exact h
theorem sa {l:List aa} {ps:List aq} (h:nq ps) (p:aq):∀d,nq (fq l ps p d)
 |0=>h
 |d+1=>BV (sa h p d) _
theorem oe (l:List aa):∀i,nq (eW l i)
 |0=>List.Pairwise.nil
 |i+1=>sa (oe l i) _ 4
theorem BU (l:List aa) (ps:List aq) (q:aq):(jS l ps q).length<=ps.length+1:=by
 unfold jS;split
 ·exact MR ps q
 ·omega
theorem r9 (l:List aa) (ps:List aq) (p:aq):∀d,(fq l ps p d).length<=ps.length+d
 |0=>Nat.le_refl _
 |d+1=>by
  have:=r9 l ps p d
  have:=BU l (fq l ps p d) (bt p d)
  simp only[fq];omega
theorem lV (l:List aa):∀i,(eW l i).length<=i*4
 |0=>Nat.le_refl _
 |i+1=>by
  have:=lV l i
  have:=r9 l (eW l i) (aL l i).aJ 4
  simp only[eW];omega
theorem yf (l:List aa) (ps:List aq) (p:aq) (x:aq):∀d,x∈fq l ps p d↔x∈ps∨∃k,k<d/\x=bt p (k:Nat)/\zd x=true/\eG l x<0
 |0=>⟨.inl,fun h=>h.elim id fun⟨_,h,_⟩=>absurd h (Nat.not_lt_zero _)⟩
 |d+1=>by
  simp only[fq,jS]
  have ih:=yf l ps p x d
  split
  ·rename_i h
   rw[Mv,ih]
   constructor
   ·rintro(rfl|h1|⟨k,h1,h2⟩)
    ·exact .inr ⟨d,Nat.lt_succ_self _,rfl,h⟩
    ·exact .inl h1
    ·exact .inr ⟨k,ah,h2⟩
   ·rintro(h1|⟨k,h1,h2⟩)
    ·exact .inr (.inl h1)
    ·by_cases hk:k=d
     ·subst hk;exact .inl h2.1
     ·exact .inr (.inr ⟨k,ah,h2⟩)
  ·rename_i h
   rw[ih]
   constructor
   ·rintro(h1|⟨k,h1,h2⟩)
    ·exact .inl h1
    ·exact .inr ⟨k,ah,h2⟩
   ·rintro(h1|⟨k,h1,h2⟩)
    ·exact .inl h1
    ·by_cases hk:k=d
     ·subst hk;rw[h2.1]at h2;exact absurd h2.2 h
     ·exact .inr ⟨k,ah,h2⟩
def CL (l:List aa) (x:aq):Prop:=zd x=true/\eG l x<0/\∃i d:Nat,i<l.length/\d<4/\x=bt (aL l i).aJ d
theorem yg (l:List aa) (x:aq):∀i,x∈eW l i↔∃j d:Nat,j<i/\d<4/\x=bt (aL l j).aJ d/\zd x=true/\eG l x<0
 |0=>⟨fun h=>(by cases h),fun⟨_,_,h,_⟩=>absurd h (Nat.not_lt_zero _)⟩
 |i+1=>by
  simp only[eW]
  rw[yf,yg l x i]
  constructor
  ·rintro(⟨j,d,h1,h2⟩|⟨d,h1,h2⟩)
   ·exact⟨j,d,ah,h2⟩
   ·exact⟨i,d,Nat.lt_succ_self _,h1,h2⟩
  ·rintro⟨j,d,h1,h2,h3⟩
   by_cases hj:j=i
   ·subst hj;exact .inr ⟨d,h2,h3⟩
   ·exact .inl ⟨j,d,ah,h2,h3⟩
theorem Aw (l:List aa) (x:aq):x∈jv l↔CL l x:=by
 unfold jv CL
 rw[yg]
 exact⟨fun⟨j,d,h1,h2,h3,h4,h5⟩=>⟨h4,h5,j,d,h1,h2,h3⟩,fun⟨h4,h5,j,d,h1,h2,h3⟩=>⟨j,d,h1,h2,h3,h4,h5⟩⟩
theorem Jv (l:List aa) (hF:lg l) (σ:aw):Call Tryz.prog 147 [.dn [.sl (l.map ab)]] σ (UM σ (fun _=>True) (jv l)):=by
 refine eA eF rfl fun kP=>?_
 clear kP
 have hR:=hF.P8
 have DH:=hF.zm
 (try((repeat(revert hN;revert N;apply Pn.out));refine wk @Nat.zero_add ?_;(repeat(refine Pn.mk ?_;intro N hN))))
 refine aQ (fun n env st=>∃i:Nat,n=(l.length)-i/\i<=(l.length)/\env 4=.int .i64 (i:Int)/\(∃o:Id,env 3=.own o 0 (eW l i).length/\st.get o=some ⟨true,2,(eW l i).map ae⟩/\o.bj<st.next/\σ.next<=o.bj/\∀x:Id,x.bj<σ.next->st.get x=σ.get x)) (l.length) ⟨0,ah,ah,sl @Nat.zero_add,⟨⟨147001000,σ.next+1⟩,by simp only[go_sem, ↓reduceIte,Nat.reduceEqDiff,Nat.reduceAdd,Nat.reduceSub,Nat.reduceLeDiff,reduceCtorEq];rfl,by simp only[go_sem, ↓reduceIte,Nat.reduceEqDiff,Nat.reduceAdd,Nat.reduceSub,Nat.reduceLeDiff,reduceCtorEq];rfl,aT,aT,fun x hx=>by
  have:=db (i:=x) (n:=σ.next+1) ah
  simp only[go_sem, ↓reduceIte,Nat.reduceEqDiff,Nat.reduceAdd,Nat.reduceSub,Nat.reduceLeDiff,reduceCtorEq,this]⟩⟩ ?_
 rintro n_a env_a st_a ⟨i,rfl,ale,a4,ke⟩ dv
 have a0:=dv 0 (by kernel_rfl)
 simp only[go_sem, ↓reduceIte,Nat.reduceEqDiff,Nat.reduceAdd,Nat.reduceSub,Nat.reduceLeDiff,reduceCtorEq]at a0
 clear dv
 obtain⟨o,a3,ag,KW,Qy,dv⟩:=ke
 by_cases hi:(i:Int)<(l.length:Int)
 ·have cq:∀{e:Env} {gg:Rows} {nx:Nat},(e 4=.int .i64 (IntKind.i64.wrap ((i:Int)+1)))->(∃o:Id,e 3=.own o 0 (eW l (i+1)).length/\gg o=some ⟨true,2,(eW l (i+1)).map ae⟩/\o.bj<nx/\σ.next<=o.bj/\∀x:Id,x.bj<σ.next->gg x=σ.get x)->∃m0,m0<(l.length)-i/\∃i:Nat,m0=(l.length)-i/\i<=(l.length)/\e 4=.int .i64 (i:Int)/\(∃o:Id,e 3=.own o 0 (eW l i).length/\gg o=some ⟨true,2,(eW l i).map ae⟩/\o.bj<nx/\σ.next<=o.bj/\∀x:Id,x.bj<σ.next->gg x=σ.get x):=fun x1 x2=>⟨_,ah,i+1,rfl,ah,(by rw[x1,ay ah]),x2⟩
  have fZ:i<l.length:=ah
  (try((repeat(revert hN;revert N;apply Pn.out));refine wk (tw @a4 (tw @a0 (tw @a3 @hi))) ?_;(repeat(refine Pn.mk ?_;intro N hN))))
  refine aQ (fun n env st=>∃d:Nat,n=(4)-d/\d<=(4)/\env 5=.int .i64 (d:Int)/\(∃o:Id,env 3=.own o 0 (fq l (eW l i) (aL l i).aJ d).length/\st.get o=some ⟨true,2,(fq l (eW l i) (aL l i).aJ d).map ae⟩/\o.bj<st.next/\σ.next<=o.bj/\∀x:Id,x.bj<σ.next->st.get x=σ.get x)) (4) ⟨0,ah,ah,sl (tw @a4 @a0),⟨o,by simp only[go_sem, ↓reduceIte,Nat.reduceEqDiff,Nat.reduceAdd,Nat.reduceSub,Nat.reduceLeDiff,reduceCtorEq,a3,fq],by simp only[go_sem, ↓reduceIte,Nat.reduceEqDiff,Nat.reduceAdd,Nat.reduceSub,Nat.reduceLeDiff,reduceCtorEq,ag,fq],aT,Qy,fun x hx=>sd (dv x hx)⟩⟩ ?_
  rintro n_b env_b st_b ⟨d,rfl,ble,b5,bI0⟩ eI
  have b0:=eI 0 (by kernel_rfl);have b4:=eI 4 (by kernel_rfl)
  simp only[go_sem, ↓reduceIte,Nat.reduceEqDiff,Nat.reduceAdd,Nat.reduceSub,Nat.reduceLeDiff,reduceCtorEq,a4,a0]at b0 b4
  clear eI
  obtain⟨ob,b3,bg,bov,Qz,eI⟩:=bI0
  by_cases hd:(d:Int)<4
  ·have eZ:∀{e:Env} {gg:Rows} {nx:Nat},(e 5=.int .i64 (IntKind.i64.wrap ((d:Int)+1)))->(∃o:Id,e 3=.own o 0 (fq l (eW l i) (aL l i).aJ (d+1)).length/\gg o=some ⟨true,2,(fq l (eW l i) (aL l i).aJ (d+1)).map ae⟩/\o.bj<nx/\σ.next<=o.bj/\∀x:Id,x.bj<σ.next->gg x=σ.get x)->∃m0,m0<(4)-d/\∃d:Nat,m0=(4)-d/\d<=(4)/\e 5=.int .i64 (d:Int)/\(∃o:Id,e 3=.own o 0 (fq l (eW l i) (aL l i).aJ d).length/\gg o=some ⟨true,2,(fq l (eW l i) (aL l i).aJ d).map ae⟩/\o.bj<nx/\σ.next<=o.bj/\∀x:Id,x.bj<σ.next->gg x=σ.get x):=fun x1 x2=>⟨_,ah,d+1,rfl,ah,(by rw[x1,ay ah]),x2⟩
   have jF:=fF fZ
   have QV:=sf (hF.pt fZ)
   have dC:=uK (aL l i).aJ d (jm ah) QV.1 QV.2
   have V0:=xX (bt (aL l i).aJ d)
   have lI:=db bov
   have xT:((fq l (eW l i) (aL l i).aJ d).map ae).length=(fq l (eW l i) (aL l i).aJ d).length:=by simp
   cases hp:zd (bt (aL l i).aJ d)
   ·rw[hp]at V0
    have qx:fq l (eW l i) (aL l i).aJ (d+1)=fq l (eW l i) (aL l i).aJ d:=by
     simp only[fq,jS];rw[if_neg fun h=>by rw[hp]at h;cases h.1]
    (repeat(first|((repeat(revert hN;revert N;apply Pn.out));refine wk (tw @b5 (tw @b0 (tw @b4 (tw @b3 (tw @bg (tw @hd (tw @jF (tw @lI (tw @ab.eq_1 @ae.eq_1))))))))) ?_;(repeat(refine Pn.mk ?_;intro N hN)))|((try apply Or.inl);refine⟨_,au.x (dC) (sd (tw @b5 (tw @b0 (tw @b4 (tw @b3 (tw @bg (tw @hd (tw @jF (tw @lI (tw @ab.eq_1 @ae.eq_1)))))))))),?_⟩;refine hN _ _ ?_;clear hN N)|((try apply Or.inl);refine⟨_,au.x (V0) (sd (tw @b5 (tw @b0 (tw @b4 (tw @b3 (tw @bg (tw @hd (tw @jF (tw @lI (tw @ab.eq_1 @ae.eq_1)))))))))),?_⟩;refine hN _ _ ?_;clear hN N)))
    exact eZ (sd (tw @b5 (tw @b0 (tw @b4 @ae.eq_1)))) (by exact⟨ob,sd (tw @b3 @qx),sd (tw @bg (tw @lI @qx)),aT,Qz,fun x hx=>by
     have h1:=db (i:=x) (n:=st_b.next) ah
     have h2:=db (i:=x) (n:=st_b.next+1) ah
     have h3:=eI x hx
     simp only[go_sem, ↓reduceIte,Nat.reduceEqDiff,Nat.reduceAdd,Nat.reduceSub,Nat.reduceLeDiff,reduceCtorEq,h1,h2,h3]⟩)
   ·rw[hp]at V0
    have E7:=r5 l (bt (aL l i).aJ d) hR ah
    by_cases hx:eG l (bt (aL l i).aJ d)<0
    ·have qx:fq l (eW l i) (aL l i).aJ (d+1)=re (fq l (eW l i) (aL l i).aJ d) (bt (aL l i).aJ d):=by
      simp only[fq,jS];rw[if_pos ⟨hp,hx⟩]
     have XF:=r9 l (eW l i) (aL l i).aJ d
     have XG:=lV l i
     (repeat(first|((repeat(revert hN;revert N;apply Pn.out));refine wk (tw @b5 (tw @b0 (tw @b4 (tw @b3 (tw @bg (tw @hd (tw @jF (tw @lI (tw @hx (tw @ab.eq_1 @ae.eq_1)))))))))) ?_;(repeat(refine Pn.mk ?_;intro N hN)))|((try apply Or.inl);refine⟨_,au.x (dC) (sd (tw @b5 (tw @b0 (tw @b4 (tw @b3 (tw @bg (tw @hd (tw @jF (tw @lI (tw @hx (tw @ab.eq_1 @ae.eq_1))))))))))),?_⟩;refine hN _ _ ?_;clear hN N)|((try apply Or.inl);refine⟨_,au.x (V0) (sd (tw @b5 (tw @b0 (tw @b4 (tw @b3 (tw @bg (tw @hd (tw @jF (tw @lI (tw @hx (tw @ab.eq_1 @ae.eq_1))))))))))),?_⟩;refine hN _ _ ?_;clear hN N)|((try apply Or.inl);refine⟨_,au.x (E7) (sd (tw @b5 (tw @b0 (tw @b4 (tw @b3 (tw @bg (tw @hd (tw @jF (tw @lI (tw @hx (tw @ab.eq_1 @ae.eq_1))))))))))),?_⟩;refine hN _ _ ?_;clear hN N)))
     refine .inr (aI _ _ _ _ _ (fun r σ1 hq=>?_) (zB _ (sa (oe l i) _ d) ah (bt (aL l i).aJ d) ob _ (sd (tw @bg @lI)) aT))
     obtain⟨g1,x1⟩:=σ1
     obtain⟨o1,rfl,q1,q2,q3,q4,q5⟩:=hq
     (try dsimp only at q1 q2 q3 q4 q5)
     refine hN _ _ ?_
     clear hN N
     (try((repeat(revert hN;revert N;apply Pn.out));refine wk (tw @b5 (tw @b0 @b4)) ?_;(repeat(refine Pn.mk ?_;intro N hN))))
     exact eZ (sd (tw @b5 (tw @b0 (tw @b4 @ae.eq_1)))) (by exact⟨o1,sd @qx,sd (tw @q1 @qx),aT,by
      rcases q4 with h|h
      ·omega
      ·have:o1=ob:=by simpa using h
       rw[this];exact Qz,fun x hx=>by
      have h1:=db (i:=x) (n:=st_b.next) ah
      have h2:=db (i:=x) (n:=st_b.next+1) ah
      have h3:=eI x hx
      have h4:(x=ob)=False:=eq_false fun h=>by rw[h]at hx;omega
      have h5:=q5 x ah h4
      simp only[go_sem, ↓reduceIte,Nat.reduceEqDiff,Nat.reduceAdd,Nat.reduceSub,Nat.reduceLeDiff,reduceCtorEq,h1,h2,h3,h5]⟩)
    ·have qx:fq l (eW l i) (aL l i).aJ (d+1)=fq l (eW l i) (aL l i).aJ d:=by
      simp only[fq,jS];rw[if_neg fun h=>hx h.2]
     (repeat(first|((repeat(revert hN;revert N;apply Pn.out));refine wk (tw @b5 (tw @b0 (tw @b4 (tw @b3 (tw @bg (tw @hd (tw @jF (tw @lI (tw @hx (tw @ab.eq_1 @ae.eq_1)))))))))) ?_;(repeat(refine Pn.mk ?_;intro N hN)))|((try apply Or.inl);refine⟨_,au.x (dC) (sd (tw @b5 (tw @b0 (tw @b4 (tw @b3 (tw @bg (tw @hd (tw @jF (tw @lI (tw @hx (tw @ab.eq_1 @ae.eq_1))))))))))),?_⟩;refine hN _ _ ?_;clear hN N)|((try apply Or.inl);refine⟨_,au.x (V0) (sd (tw @b5 (tw @b0 (tw @b4 (tw @b3 (tw @bg (tw @hd (tw @jF (tw @lI (tw @hx (tw @ab.eq_1 @ae.eq_1))))))))))),?_⟩;refine hN _ _ ?_;clear hN N)|((try apply Or.inl);refine⟨_,au.x (E7) (sd (tw @b5 (tw @b0 (tw @b4 (tw @b3 (tw @bg (tw @hd (tw @jF (tw @lI (tw @hx (tw @ab.eq_1 @ae.eq_1))))))))))),?_⟩;refine hN _ _ ?_;clear hN N)))
     exact eZ (sd (tw @b5 (tw @b0 (tw @b4 @ae.eq_1)))) (by exact⟨ob,sd (tw @b3 @qx),sd (tw @bg (tw @lI @qx)),aT,Qz,fun x hx=>by
      have h1:=db (i:=x) (n:=st_b.next) ah
      have h2:=db (i:=x) (n:=st_b.next+1) ah
      have h3:=eI x hx
      simp only[go_sem, ↓reduceIte,Nat.reduceEqDiff,Nat.reduceAdd,Nat.reduceSub,Nat.reduceLeDiff,reduceCtorEq,h1,h2,h3]⟩)
  ·have Sk:d=4:=ah
   rw[Sk]at b3 bg
   have hnu:fq l (eW l i) (aL l i).aJ 4=eW l (i+1):=rfl
   rw[hnu]at b3 bg
   (try((repeat(revert hN;revert N;apply Pn.out));refine wk (tw @b5 (tw @b0 (tw @b4 (tw @b3 (tw @bg @hd))))) ?_;(repeat(refine Pn.mk ?_;intro N hN))))
   exact cq (sd (tw @b5 (tw @b0 (tw @b4 @ae.eq_1)))) (by exact⟨ob,sd @b3,sd @bg,aT,Qz,fun x hx=>sd (eI x hx)⟩)
 ·have mb:i=l.length:=ah
  (try((repeat(revert hN;revert N;apply Pn.out));refine wk (tw @a4 (tw @a0 (tw @a3 (tw @ag @hi)))) ?_;(repeat(refine Pn.mk ?_;intro N hN))))
  exact eS (.inl rfl) (vs:=[.own o 0 (eW l i).length]) (sd @a3) ⟨o,by rw[jv,<-mb];rfl,by rw[jv,<-mb];simp only[go_sem, ↓reduceIte,Nat.reduceEqDiff,Nat.reduceAdd,Nat.reduceSub,Nat.reduceLeDiff,reduceCtorEq,ag],aT,aT,.inl Qy,fun x hx _=>sd (dv x hx)⟩
structure Wr2 (g:Rows) (n:Nat) (A S C c T O:Id) (s:aE) (l:List aa):Prop where
 a:∃b,g A=some ⟨b,1,[[.sl (l.map ab)]]⟩
 sy:∃b,g S=some ⟨b,4,[aA s]⟩
 p:∃b,g C=some ⟨b,1,[[.ptr c 0 0]]⟩
 RJ:CK g n c T O s l
 av:A.bj<n
 sv:S.bj<n
 pv:C.bj<n
def Hp (B:aq->Int->Bool) (p:aq):Nat->List aa
 |0=>[]
 |t+1=>if B p (t:Nat)=true then Hp B p t++[⟨p,(t:Nat)⟩]else Hp B p t
def so (B:aq->Int->Bool) (m:Nat) (ps:List aq):List aa:=ps.flatMap fun p=>Hp B p m
theorem Hq (B:aq->Int->Bool) (p:aq):∀t,(Hp B p t).length<=t
 |0=>by simp[Hp]
 |t+1=>by
  have:=Hq B p t
  rw[Hp]
  split
  ·rw[List.length_append,List.length_singleton];omega
  ·omega
theorem wP (B:aq->Int->Bool) (m:Nat):∀ps:List aq,(so B m ps).length<=ps.length*m
 |[]=>by simp[so]
 |p::ps=>by
  have h:=wP B m ps
  have h2:=Hq B p m
  unfold so at *
  rw[List.flatMap_cons,List.length_append,List.length_cons,Nat.add_mul,Nat.one_mul]
  omega
theorem C1 {B:aq->Int->Bool} {m:Nat} {ps:List aq} {k:Nat} (hk:k<ps.length):so B m (ps.take (k+1))=so B m (ps.take k)++Hp B (j7 ps k) m:=by
 unfold so
 rw[List.take_succ_eq_append_getElem hk,List.flatMap_append,kq hk]
 simp
end Go.Proofs.YtgoljkjaameagaaGreat.V

namespace Go.Proofs.YtgoljkjaameagaaGreat.V
open Go.RowKit
def iO:List aa->aa->List aa
 |[],q=>[q]
 |x::r,q=>if iS q.aJ x.aJ=true then q::x::r else x::iO r q
theorem pV {q x:aa}:∀{l:List aa},x∈iO l q↔x=q∨x∈l
 |[]=>by simp[iO]
 |y::r=>by
  have ih:=@pV q x r
  rw[iO]
  split
  ·simp
  ·simp only[List.mem_cons,ih]
   constructor
   ·rintro(h|h|h)<;>simp[h]
   ·rintro(h|h|h)<;>simp[h]
theorem qd (q:aa):∀l:List aa,(iO l q).length=l.length+1
 |[]=>rfl
 |y::r=>by
  have ih:=qd q r
  rw[iO]
  split
  ·simp
  ·simp[ih]
theorem tC {l:List aa}:qS l↔l.Pairwise fun a b=>iS a.aJ b.aJ=true:=by
 rw[List.pairwise_iff_getElem]
 constructor
 ·intro h i j hi hj y9
  have:=h i j y9 hj
  rwa [fa hi,fa hj]at this
 ·intro h i j y9 hj
  have:=h i j ah hj y9
  rwa [fa ah,fa hj]
theorem kF {l:List aa} {p:aq}:eG l p<0↔∀t∈l,t.aJ≠p:=DZ
theorem MP {q:aa}:∀{l:List aa},qS l->eG l q.aJ<0->qS (iO l q):=by
 intro l
 rw[tC,tC,kF]
 induction l with
 |nil=>intro _ _;exact List.pairwise_singleton _ _
 |cons y r ih=>
  intro h hn
  obtain⟨h1,h2⟩:=List.pairwise_cons.1 h
  rw[iO]
  split
  ·rename_i hl
   refine List.pairwise_cons.2 ⟨fun x hx=>?_,h⟩
   rcases List.mem_cons.1 hx with rfl|hx
   ·exact hl
   ·exact iK hl (h1 x hx)
  ·rename_i hl
   rw[Bool.not_eq_true]at hl
   refine List.pairwise_cons.2 ⟨fun x hx=>?_,ih h2 fun t ht=>hn t (by simp[ht])⟩
   rcases pV.1 hx with rfl|hx
   ·exact qz hl fun e=>hn y (by simp) e.symm
   ·exact h1 x hx
theorem ki (x:aa) (r:List aa) (p:aq):fU (x::r) p=if x.aJ=p then x.br else fU r p:=by
 unfold fU eG q9
 rw[List.findIdx_cons]
 by_cases h:x.aJ=p
 ·simp[h,aL]
 ·simp only[h,decide_false,cond_false,List.length_cons,Nat.add_lt_add_iff_right,if_false]
  by_cases hl:(r.findIdx fun c=>decide (c.aJ=p))<r.length
  ·rw[if_pos hl,if_pos hl,if_pos ah,if_pos ah]
   simp[aL]
  ·rw[if_neg hl,if_neg hl];rfl
theorem CX {q:aa} (p:aq):∀{l:List aa},(∀t∈l,t.aJ≠q.aJ)->fU (iO l q) p=if q.aJ=p then q.br else fU l p
 |[],_=>by rw[iO,ki]
 |x::r,h=>by
  have ih:=@CX q p r fun t ht=>h t (by simp[ht])
  rw[iO]
  split
  ·rw[ki]
  ·rw[ki,ih,ki]
   by_cases h1:x.aJ=p
   ·have h2:q.aJ≠p:=fun e=>h x (by simp) (h1.trans e.symm)
    rw[if_pos h1,if_neg h2,if_pos h1]
   ·rw[if_neg h1,if_neg h1]
theorem sK {q:aa} (p:aq):∀{l:List aa},(∀t∈l,t.aJ≠q.aJ)->fU (l++[q]) p=if q.aJ=p then q.br else fU l p
 |[],_=>by rw[List.nil_append,ki]
 |x::r,h=>by
  have ih:=@sK q p r fun t ht=>h t (by simp[ht])
  rw[List.cons_append,ki,ih,ki]
  by_cases h1:x.aJ=p
  ·have h2:q.aJ≠p:=fun e=>h x (by simp) (h1.trans e.symm)
   rw[if_pos h1,if_neg h2,if_pos h1]
  ·rw[if_neg h1,if_neg h1]
theorem qD {α:Type} [DecidableEq α]:∀{xs ys:List α},xs.Nodup->(∀x∈xs,x∈ys)->xs.length<=ys.length
 |[],_,_,_=>Nat.zero_le _
 |x::xs,ys,hn,h=>by
  obtain⟨h1,h2⟩:=List.nodup_cons.1 hn
  have hx:=h x (by simp)
  have:=@qD α _ xs (ys.erase x) h2 fun y hy=>(List.mem_erase_of_ne fun e=>h1 (by rw[<-e];exact hy)).2 (h y (by simp[hy]))
  rw[List.length_erase_of_mem hx]at this
  have:=List.length_pos_of_mem hx
  rw[List.length_cons];omega
theorem UI {l:List aa} (h:qS l):l.Nodup:=by
 rw[tC]at h
 refine List.Pairwise.imp (fun {a b} nV e=>?_) h
 rw[e,iM]at nV;cases nV
abbrev Io:=List aa×List aa
noncomputable def X1 (s:aE) (st:Io) (x:aa):Io:=if ew s st.2 x.aJ x.br=true then(st.1++[x],iO st.2 x)else st
structure InsI (s:aE) (l:List aa) (st:Io):Prop where
 P8:qS st.2
 sub:∀x∈st.2,x∈l
 done:∀x∈st.1,x∈l
 len:st.2.length=s.bY.ai.length+st.1.length
theorem U8 {s:aE} {l:List aa} (hA:jZ s.aC l) {now:List aa} (hs:∀x∈now,x∈l) {p:aq} {t:Int} (h:ew s now p t=true):eG now p<0:=by
 rcases Int.lt_or_le (eG now p) 0 with h0|h0
 ·exact h0
 ·exfalso
  obtain⟨h1,_⟩:=lz h0
  have h2:=(dB (hA.2 _ (hs _ (gO h1)))).1
  simp[ew,fU,h0]at h
  omega
structure SysW (s:aE):Prop where
 set:iG s.aC
 zH:jZ s.aC s.bY.ai
 some:1<=s.bY.ai.length
 Nr:iV s.az 1 16=true
def lH (B:aq->Int->Bool) (p:aq):Nat->List Int
 |0=>[]
 |t+1=>if B p (t:Nat)=true then lH B p t++[(t:Int)]else lH B p t
theorem sY (B:aq->Int->Bool) (p:aq):∀t,(lH B p t).length<=t
 |0=>by simp[lH]
 |t+1=>by
  have:=sY B p t
  rw[lH]
  split
  ·rw[List.length_append,List.length_singleton];omega
  ·omega
theorem Bb (B:aq->Int->Bool) (p:aq):∀t,Hp B p t=(lH B p t).map fun k=>(⟨p,k⟩:aa)
 |0=>rfl
 |t+1=>by
  rw[Hp,lH,Bb B p t]
  split<;>simp
theorem Bn {B:aq->Int->Bool} {p:aq} (h:∀t:Nat,B p t=false):∀t,lH B p t=[]
 |0=>rfl
 |t+1=>by rw[lH,if_neg (by rw[h t];simp),Bn h t]
theorem Dr {B:aq->Int->Bool} {p:aq}:∀{t:Nat},lH B p t≠[]->∃k:Nat,k<t/\B p k=true
 |0,h=>absurd rfl h
 |t+1,h=>by
  rw[lH]at h
  split at h
  ·rename_i hb;exact⟨t,Nat.lt_succ_self t,hb⟩
  ·obtain⟨k,hk,hb⟩:=Dr h
   exact⟨k,Nat.lt_succ_of_lt hk,hb⟩
theorem uz {B C:aq->Int->Bool} {p:aq} (h:∀t:Nat,B p t=C p t):∀t,lH B p t=lH C p t
 |0=>rfl
 |t+1=>by rw[lH,lH,h t,uz h t]
abbrev En:=aq×AV
def o8 (e:En):List AV:=[.int .i64 e.1.eE,.int .i64 e.1.ez,e.2]
def oi:List En->aq->AV->List En
 |[],q,v=>[(q,v)]
 |e::es,q,v=>if e.1=q then(q,v)::es else e::oi es q v
def oZ:List En->aq->List En
 |[],_=>[]
 |e::es,q=>if e.1=q then es else e::oZ es q
theorem yh {q:aq} {v:AV} {x:En}:∀{es:List En},x.1≠q->(x∈oi es q v↔x∈es)
 |[],h=>by
  rw[oi,List.mem_singleton]
  exact⟨fun e=>absurd (by rw[e]) h,fun e=>by cases e⟩
 |e::es,h=>by
  have ih:=@yh q v x es h
  rw[oi]
  split
  ·rename_i he
   rw[List.mem_cons,List.mem_cons]
   exact⟨fun h1=>h1.elim (fun e=>absurd (by rw[e]) h) .inr,fun h1=>h1.elim (fun e'=>absurd (by rw[e'];exact he) h) .inr⟩
  ·rw[List.mem_cons,List.mem_cons,ih]
theorem AI (q:aq) (v:AV):∀es:List En,(q,v)∈oi es q v
 |[]=>by simp[oi]
 |e::es=>by
  have ih:=AI q v es
  rw[oi]
  split
  ·simp
  ·exact List.mem_cons_of_mem _ ih
theorem D9 {q:aq} {v:AV} {p:aq}:∀{es:List En},p∈(oi es q v).map (·.1)->p=q∨p∈es.map (·.1)
 |[],h=>by simp[oi]at h;exact .inl h
 |e::es,h=>by
  rw[oi]at h
  split at h
  ·simp only[List.map_cons,List.mem_cons]at h ⊢
   exact h.imp_right .inr
  ·simp only[List.map_cons,List.mem_cons]at h ⊢
   rcases h with h|h
   ·exact .inr (.inl h)
   ·exact(D9 h).imp_right .inr
theorem yD (q:aq) (v:AV):∀{es:List En},(es.map (·.1)).Nodup->((oi es q v).map (·.1)).Nodup
 |[],_=>by simp[oi]
 |e::es,h=>by
  obtain⟨h1,h2⟩:=List.nodup_cons.1 (show(e.1::es.map (·.1)).Nodup from h)
  rw[oi]
  split
  ·rename_i he
   refine List.nodup_cons.2 ⟨?_,h2⟩
   show q∉_
   rw[<-he];exact h1
  ·rename_i he
   refine List.nodup_cons.2 ⟨fun hc=>?_,yD q v h2⟩
   rcases D9 hc with h3|h3
   ·exact he h3
   ·exact h1 h3
theorem yd {q:aq} {x:En}:∀{es:List En},x.1≠q->(x∈oZ es q↔x∈es)
 |[],_=>Iff.rfl
 |e::es,h=>by
  have ih:=@yd q x es h
  rw[oZ]
  split
  ·rename_i he
   rw[List.mem_cons]
   exact⟨.inr,fun h1=>h1.elim (fun e'=>absurd (by rw[e'];exact he) h) id⟩
  ·rw[List.mem_cons,List.mem_cons,ih]
theorem sU {q:aq}:∀{es:List En},(oZ es q).Sublist es
 |[]=>List.Sublist.slnil
 |e::es=>by
  rw[oZ]
  split
  ·exact List.sublist_cons_self _ _
  ·exact(sU (es:=es)).cons_cons _
theorem xE (q:aq) {es:List En} (h:(es.map (·.1)).Nodup):((oZ es q).map (·.1)).Nodup:=((sU (q:=q) (es:=es)).map _).nodup h
theorem Bh {q:aq}:∀{es:List En},(es.map (·.1)).Nodup->∀e∈oZ es q,e.1≠q
 |[],_,e,h=>by cases h
 |x::es,hn,e,h=>by
  obtain⟨h1,h2⟩:=List.nodup_cons.1 (show(x.1::es.map (·.1)).Nodup from hn)
  rw[oZ]at h
  split at h
  ·rename_i hx
   intro he
   exact h1 (by rw[hx,<-he];exact List.mem_map_of_mem h)
  ·rename_i hx
   rcases List.mem_cons.1 h with rfl|h
   ·exact hx
   ·exact Bh h2 e h
theorem Pt {es:List En} (hn:(es.map (·.1)).Nodup) {q:aq} {u v:AV} (h1:(q,u)∈es) (h2:(q,v)∈es):u=v:=by
 induction es with
 |nil=>cases h1
 |cons e es ih=>
  obtain⟨n1,n2⟩:=List.nodup_cons.1 (show(e.1::es.map (·.1)).Nodup from hn)
  rcases List.mem_cons.1 h1 with a|a<;>rcases List.mem_cons.1 h2 with b|b
  ·rw[<-a]at b;injection b with _ b;exact b.symm
  ·exact absurd (by rw[<-a];exact List.mem_map_of_mem (f:=(·.1)) b) n1
  ·exact absurd (by rw[<-b];exact List.mem_map_of_mem (f:=(·.1)) a) n1
  ·exact ih n2 a b
structure xj (g:Rows) (n:Nat) (es:List En) (fs:aq->List Int) (A:aq->Prop):Prop where
 nodup:(es.map (·.1)).Nodup
 at_:∀q,A q->(fs q=[]/\∀e∈es,e.1≠q)∨(fs q≠[]/\∃o:Id,(q,AV.own o 0 (fs q).length)∈es/\o.bj<n/\g o=some ⟨true,1,(fs q).map aU⟩)
theorem xj.mono {g:Rows} {n:Nat} {es:List En} {fs:aq->List Int} {A A':aq->Prop} (h:xj g n es fs A) (hA:∀q,A' q->A q):xj g n es fs A':=⟨h.nodup,fun q hq=>h.at_ q (hA q hq)⟩
theorem xj.frame {g g':Rows} {n n':Nat} {es:List En} {fs:aq->List Int} {A:aq->Prop} (h:xj g n es fs A) (hn:n<=n') (hf:∀x:Id,x.bj<n->(∃k r,g x=some ⟨k,1,r⟩)->g' x=g x):xj g' n' es fs A:=⟨h.nodup,fun q hq=>by
 rcases h.at_ q hq with h1|⟨h1,o,h2,h3,h4⟩
 ·exact .inl h1
 ·exact .inr ⟨h1,o,h2,ah,(hf o h3 ⟨_,_,h4⟩).trans h4⟩⟩
theorem xj.put {g:Rows} {n:Nat} {es:List En} {fs:aq->List Int} {A:aq->Prop} (h:xj g n es fs A) {q:aq} {o:Id} (h0:fs q≠[]) (ho:o.bj<n) (hg:g o=some ⟨true,1,(fs q).map aU⟩):xj g n (oi es q (.own o 0 (fs q).length)) fs (fun p=>A p∨p=q):=⟨yD _ _ h.nodup,fun p hp=>by
 by_cases e:p=q
 ·subst e
  exact .inr ⟨h0,o,AI _ _ _,ho,hg⟩
 ·rcases hp with hp|hp
  ·rcases h.at_ p hp with⟨h1,h2⟩|⟨h1,o',h2,h3⟩
   ·refine .inl ⟨h1,fun x hx hxp=>?_⟩
    have hxq:x.1≠q:=fun e'=>e (hxp.symm.trans e')
    exact h2 x ((yh hxq).1 hx) hxp
   ·exact .inr ⟨h1,o',(yh e).2 h2,h3⟩
  ·exact absurd hp e⟩
theorem xj.cut {g:Rows} {n:Nat} {es:List En} {fs:aq->List Int} {A:aq->Prop} (h:xj g n es fs A) {q:aq} (h0:fs q=[]):xj g n (oZ es q) fs (fun p=>A p∨p=q):=⟨xE _ h.nodup,fun p hp=>by
 by_cases e:p=q
 ·subst e
  exact .inl ⟨h0,Bh h.nodup⟩
 ·rcases hp with hp|hp
  ·rcases h.at_ p hp with⟨h1,h2⟩|⟨h1,o',h2,h3⟩
   ·exact .inl ⟨h1,fun x hx=>h2 x (sU.subset hx)⟩
   ·exact .inr ⟨h1,o',(yd e).2 h2,h3⟩
  ·exact absurd hp e⟩
theorem El (p:aq):∀(es:List En) (i:Nat),∃fi,gH ⟨true,[.tI,.tI]⟩ (ae p) (es.map o8) i=some fi/\
  (∀v,(match fi with|some j=>(es.map o8).set (j-i) [.int .i64 p.eE,.int .i64 p.ez,v]|none=>es.map o8++[[.int .i64 p.eE,.int .i64 p.ez,v]])=(oi es p v).map o8)/\
  ((match fi with|some j=>(es.map o8).eraseIdx (j-i)|none=>es.map o8)=(oZ es p).map o8)/\
  (∀j,fi=some j->i<=j/\j-i<es.length/\∃v,es[j-i]? =some (p,v))/\(fi=none->∀e∈es,e.1≠p)
 |[],i=>⟨none,by simp[gH],fun v=>rfl,rfl,fun _ h=>(by cases h),fun _ _ he=>(by cases he)⟩
 |e::es,i=>by
  have hq:e6 [TS.tI,TS.tI] (ae p) ((o8 e).take 2)=some (decide (p=e.1)):=by
   have h:(p=e.1)↔(p.eE=e.1.eE/\p.ez=e.1.ez):=⟨fun h=>by rw[h];exact⟨rfl,rfl⟩,fun h=>yy h.1 h.2⟩
   simp[ae,o8,e6,fQ,h]
  by_cases h:p=e.1
  ·refine⟨some i,?_,fun v=>?_,?_,fun j hj=>?_,fun hc=>by cases hc⟩
   ·rw[List.map_cons]
    unfold gH
    rw[show(⟨true,[.tI,.tI]⟩:MK).ts=[.tI,.tI]from rfl,show(⟨true,[.tI,.tI]⟩:MK).ks=2 from rfl,hq,decide_eq_true h]
   ·simp[oi,h,o8]
   ·simp[oZ,h]
   ·cases hj
    exact⟨Nat.le_refl _,by simp,e.2,by simp[h]⟩
  ·obtain⟨fi,h1,h2,h3,h4,h5⟩:=El p es (i+1)
   have he:¬e.1=p:=fun hc=>h hc.symm
   refine⟨fi,?_,fun v=>?_,?_,fun j hj=>?_,fun hc x hx=>?_⟩
   ·rw[List.map_cons]
    unfold gH
    rw[show(⟨true,[.tI,.tI]⟩:MK).ts=[.tI,.tI]from rfl,show(⟨true,[.tI,.tI]⟩:MK).ks=2 from rfl,hq,decide_eq_false h]
    exact h1
   ·have Xf:=h2 v
    rw[oi,if_neg he]
    cases fi with
    |none=>
     simp only[List.map_cons,List.cons_append]at Xf ⊢
     rw[Xf]
    |some j=>
     obtain⟨h6,_⟩:=h4 j rfl
     obtain⟨k,hk⟩:∃k,j=i+1+k:=⟨j-(i+1),ah⟩
     subst hk
     simp only[show i+1+k-i=k+1 by omega,show i+1+k-(i+1)=k by omega,List.map_cons,List.set_cons_succ]at Xf ⊢
     rw[Xf]
   ·rw[oZ,if_neg he]
    cases fi with
    |none=>
     simp only[List.map_cons]at h3 ⊢
     rw[h3]
    |some j=>
     obtain⟨h6,_⟩:=h4 j rfl
     obtain⟨k,hk⟩:∃k,j=i+1+k:=⟨j-(i+1),ah⟩
     subst hk
     simp only[show i+1+k-i=k+1 by omega,show i+1+k-(i+1)=k by omega,List.map_cons,List.eraseIdx_cons_succ]at h3 ⊢
     rw[h3]
   ·obtain⟨h6,h7,v,h8⟩:=h4 j hj
    refine⟨ah,by simp only[List.length_cons];omega,v,?_⟩
    rw[show j-i=(j-(i+1))+1 by omega,List.getElem?_cons_succ];exact h8
   ·rcases List.mem_cons.1 hx with rfl|hx
    ·exact he
    ·exact h5 hc x hx
theorem uM (p:aq) (es:List En):∃fi,gD ⟨true,[.tI,.tI]⟩ (.agg [.int .i64 p.eE,.int .i64 p.ez]) (es.map o8)=some fi/\(∀v,dE (es.map o8) [.int .i64 p.eE,.int .i64 p.ez,v] fi=(oi es p v).map o8)/\dG (es.map o8) fi=(oZ es p).map o8/\
  (∀j,fi=some j->∃v,es[j]? =some (p,v))/\(fi=none->∀e∈es,e.1≠p):=by
 obtain⟨fi,h1,h2,h3,h4,h5⟩:=El p es 0
 refine⟨fi,?_,fun v=>?_,?_,fun j hj=>?_,h5⟩
 ·unfold gD
  rw[if_pos ⟨rfl,rfl,rfl⟩]
  exact h1
 ·rw[<-h2 v];cases fi<;>rfl
 ·rw[<-h3];cases fi<;>rfl
 ·obtain⟨_,_,v,h6⟩:=h4 j hj
  exact⟨v,by simpa using h6⟩
theorem uW (p:aq) (k:Nat) (hk:k<4):bt (bt p k) (ko k)=p:=by
 have:k=0∨k=1∨k=2∨k=3:=ah
 rcases this with rfl|rfl|rfl|rfl<;>(cases p;simp[bt,ko,iV];try omega)
theorem bind_some {s:ax} {F:aq->Int} {p:aq} {t:Int}:∀d:Nat,0<dm s F p t d->∃k:Nat,k<d/\0<=F (bt p k)
 |0,h=>by simp[dm]at h
 |d+1,h=>by
  by_cases h0:0<=F (bt p d)
  ·exact⟨d,Nat.lt_succ_self d,h0⟩
  ·rw[dm,if_neg h0,Int.add_zero]at h
   obtain⟨k,hk,h1⟩:=bind_some d h
   exact⟨k,Nat.lt_succ_of_lt hk,h1⟩
theorem Lv {s:aE} (hT:1<=s.az) {l:List aa} (hA:jZ s.aC l) {p:aq} {t:Int} (h:ew s l p t=true):CL l p:=by
 simp[ew]at h
 obtain⟨⟨h1,h2⟩,h3⟩:=h
 obtain⟨k,hk,h4⟩:=bind_some (s:=s.aC) (F:=fU l) (p:=p) (t:=t) 4 (by have:oH s.aC (fU l) p t=dm s.aC (fU l) p t 4:=rfl;omega)
 have h5:0<=eG l (bt p k):=by
  unfold fU at h4
  split at h4
  ·assumption
  ·omega
 obtain⟨h6,h7⟩:=lz h5
 refine⟨h1,(Ft hA p).1 h2,(eG l (bt p k)).toNat,(ko k).toNat,h6,?_,?_⟩
 ·have:k=0∨k=1∨k=2∨k=3:=ah
  rcases this with rfl|rfl|rfl|rfl<;>decide
 ·rw[h7]
  have:((ko k).toNat:Int)=ko k:=by
   have:k=0∨k=1∨k=2∨k=3:=ah
   rcases this with rfl|rfl|rfl|rfl<;>decide
  rw[this,uW p k hk]
noncomputable def mN (s:aE) (l:List aa):List aq:=(jv l).filter fun p=>decide (lH (ew s l) p s.aC.ai.length≠[])
theorem ye {s:aE} (hT:1<=s.az) {l:List aa} (hA:jZ s.aC l) (p:aq):p∈mN s l↔lH (ew s l) p s.aC.ai.length≠[]:=by
 unfold mN
 rw[List.mem_filter,Aw,decide_eq_true_eq]
 refine⟨fun h=>h.2,fun h=>⟨?_,h⟩⟩
 obtain⟨k,_,hk⟩:=Dr h
 exact Lv hT hA hk
theorem FO (s:aE) (l:List aa):nq (mN s l):=List.Pairwise.sublist List.filter_sublist (oe l _)
theorem Fy (s:aE) (l:List aa):so (ew s l) s.aC.ai.length (jv l)=so (ew s l) s.aC.ai.length (mN s l):=by
 unfold mN
 generalize jv l=ps
 induction ps with
 |nil=>rfl
 |cons p ps ih=>
  unfold so at *
  rw[List.flatMap_cons,List.filter_cons,ih]
  split
  ·rw[List.flatMap_cons]
  ·rename_i h
   simp only[decide_eq_true_eq,ne_eq,Classical.not_not]at h
   rw[Bb,h];rfl
end Go.Proofs.YtgoljkjaameagaaGreat.V

namespace Go.Proofs.YtgoljkjaameagaaGreat.V
open Go.RowKit
attribute [local irreducible] dK wpOps gw Call
attribute [local go_sem] aM fE eM fV fS dc upd cr K.av cI AV.cells AV.cell rowOf rowsOf part ld rowAt bE cj dy dS gU bJ cY ee fQ e6 dp dX cW cV dI dJ bP bc cL bL cP cN dV dY dW cK bU cX dU bK aO cR cC gT bw cG bQ aY dj aZ dz AV.undef bD bG dM dQ dE dG cE ec eh cz ea dZ cQ cU List.getD_cons_zero List.getD_cons_succ List.getD_nil List.all_cons List.all_nil Bool.and_true Bool.true_and Bool.and_self Bool.not_true Bool.not_false Option.map_some Option.map_none Option.bind_some Option.bind_none List.length_cons List.length_nil List.take_succ_cons List.take_zero List.take_nil List.drop_succ_cons List.drop_zero List.drop_nil List.head?_cons List.map_cons List.map_nil List.getElem?_cons_zero List.getElem?_cons_succ List.cons_append List.nil_append List.append_nil List.length_map List.set_cons_zero List.set_cons_succ Nat.reduceMul eq_self Int.toNat_natCast Int.natCast_nonneg and_self true_and and_true decide_true decide_false Bool.false_eq_true Nat.zero_add Nat.add_zero List.contains_cons List.contains_nil Bool.or_false Bool.false_or beq_self_eq_true Nat.reduceBEq ne_eq not_true_eq_false not_false_eq_true Id.mk.injEq false_and and_false Nat.reduceLT Int.reduceLE Int.reduceLT Int.reduceToNat Int.reduceNeg Int.reduceAdd Nat.le_refl List.length_append beq_true beq_false Bool.not_eq_eq_eq_not or_false false_or dH aj ar aH bh bz ck aV bd aX bf cJ bB
theorem Va (g:Rows) (n:Nat) (x:aa):ep g (n+1) (ab x)=some (ab x):=by simp[ab,bW,cF,eO]
def Rl (n:Nat) (L:List aa) (r:AV) (σ':aw):Prop:=∃o:Id,r=.agg [.own o 0 L.length]/\σ'.get o=some ⟨true,3,L.map ab⟩/\n<=o.bj/\o.bj<σ'.next
theorem Rl.val {f:Nat} {args args':List AV} {L:List aa} {σ:aw} (h:∀n,Call Tryz.prog f args' ⟨fun _=>none,n⟩ (Rl n L)) (hv:cZ (dH σ.get) 6 args=some args'):Call Tryz.prog f args σ (fun r σ'=>Rl σ.next L r σ'/\Kept σ σ'):=by
 refine xg mixed hv (aI _ _ _ _ _ (fun r σ' hq=>?_) (ug mixed (h σ.next)))
 obtain⟨⟨o,rfl,h2,h3,h4⟩,hn⟩:=hq
 refine⟨[o],rfl,fun i hi=>?_,⟨o,rfl,(ql (by simp)).trans h2,h3,h4⟩,hn,fun j hj=>lJ fun hc=>?_⟩
 ·rw[List.mem_singleton.1 hi]
  exact⟨_,h2,rfl,fun cs dx a ha=>by
   obtain⟨x,_,rfl⟩:=List.mem_map.1 dx
   simp[ab]at ha
   rcases ha with rfl|rfl|rfl<;>rfl⟩
 ·rw[List.mem_singleton.1 hc]at hj;omega
theorem Ml (l:List aa) (hl:l.length<=1048576) (n0:Nat):Call Tryz.prog 96 [.dn [.sl (l.map ab)]] ⟨fun _=>none,n0⟩ (Rl n0 l):=by
 refine eA eF rfl fun kP=>?_
 clear kP
 have xT:(l.map ab).length<=16777216:=by simp;omega
 have dP:(l.map ab).all (fun c=>c.length==3&&c.all AV.cell)=true:=all_map fun x=>⟨rfl,rfl⟩
 have HM:(l.map ab).length=l.length:=by simp
 generalize pT:l.map ab=rows at xT dP HM
 (try((repeat(revert hN;revert N;apply Pn.out));refine wk (tw @xT @dP) ?_;(repeat(refine Pn.mk ?_;intro N hN))))
 exact eS (.inl rfl) (vs:=[.agg [.own ⟨96001005,n0+1⟩ 0 rows.length]]) (sd @Nat.zero_add) ⟨⟨96001005,n0+1⟩,by rw[HM];rfl,by rw[pT];simp only[go_sem, ↓reduceIte,Nat.reduceEqDiff,Nat.reduceAdd,Nat.reduceSub,Nat.reduceLeDiff,reduceCtorEq],aT,aT⟩
def wD (q:aa) (l:List aa):Bool:=l.any fun x=>iS q.aJ x.aJ
theorem EB {q:aa}:∀{l:List aa},wD q l=false->iO l q=l++[q]
 |[],_=>rfl
 |x::l,h=>by
  unfold wD at h
  rw[List.any_cons,Bool.or_eq_false_iff]at h
  rw[iO,if_neg (by rw[h.1];simp),EB h.2];rfl
theorem AH {q y:aa}:∀{l:List aa},wD q l=true->iO (l++[y]) q=iO l q++[y]
 |x::l,h=>by
  unfold wD at h
  rw[List.any_cons]at h
  rw[List.cons_append,iO,iO]
  cases hx:iS q.aJ x.aJ
  ·rw[hx,Bool.false_or]at h
   rw[if_neg (by simp),if_neg (by simp),AH h];rfl
  ·simp
theorem AF {q y:aa}:∀{l:List aa},wD q l=false->iS q.aJ y.aJ=true->iO (l++[y]) q=l++[q]++[y]
 |[],_,hy=>by simp[iO,hy]
 |x::l,h,hy=>by
  unfold wD at h
  rw[List.any_cons,Bool.or_eq_false_iff]at h
  rw[List.cons_append,iO,if_neg (by rw[h.1];simp),AF h.2 hy];rfl
def jw (q:aa) (l:List aa):List aa:=if wD q l=true then iO l q else l
theorem xF (q:aa) (l:List aa) (y:aa):wD q (l++[y])=(wD q l||iS q.aJ y.aJ):=by simp[wD]
theorem JS (q:aa) (l:List aa):(jw q l).length<=l.length+1:=by
 unfold jw
 split
 ·rw[qd];omega
 ·omega
theorem MJ {q y:aa} {l:List aa} (h:wD q l=true∨iS q.aJ y.aJ=false):jw q (l++[y])=jw q l++[y]:=by
 unfold jw
 rw[xF]
 cases hd:wD q l
 ·rw[hd]at h
  have h2:iS q.aJ y.aJ=false:=by rcases h with h|h;cases h;exact h
  simp[h2]
 ·simp[AH hd]
theorem MI {q y:aa} {l:List aa} (h:wD q l=false) (hy:iS q.aJ y.aJ=true):jw q (l++[y])=jw q l++[q]++[y]:=by
 unfold jw
 rw[xF,h,hy]
 simp[AF h hy]
def Yc (m:Nat) (L:List aa) (v:AV) (g:Rows) (n:Nat):Prop:=(L=[]/\v=.bI)∨∃o:Id,v=.own o 0 L.length/\g o=some ⟨true,3,L.map ab⟩/\m<=o.bj/\o.bj<n
theorem yY {l:List aa} {k:Nat} (hk:k<l.length):l.take (k+1)=l.take k++[aL l k]:=by rw[List.take_succ_eq_append_getElem hk,fa hk]
theorem Eh (L:List aa) (q:aa):(L++[q]).map ab=L.map ab++[[.int .i64 q.aJ.eE,.int .i64 q.aJ.ez,.int .i64 q.br]]:=by rw[List.map_append];rfl
theorem tg (L:List aa) (q:aa):(L++[q]).length=L.length+1:=by rw[List.length_append];rfl
theorem Mm (l:List aa) (hl:l.length<=1048576) (p:aq) (t:Int) (n0:Nat):Call Tryz.prog 162 [.dn [.sl (l.map ab)],.agg (ae p),.int .i64 t] ⟨fun _=>none,n0⟩ (Rl n0 (iO l ⟨p,t⟩)):=by
 refine eA eF rfl fun kP=>?_
 clear kP
 obtain⟨q,hq⟩:∃q:aa,q=⟨p,t⟩:=⟨_,rfl⟩
 (try((repeat(revert hN;revert N;apply Pn.out));refine wk @ae.eq_1 ?_;(repeat(refine Pn.mk ?_;intro N hN))))
 refine aQ (fun n env st=>∃i:Nat,n=(l.length)-i/\i<=(l.length)/\env 9=.int .i64 (i:Int)/\env 8=.bool (wD q (l.take i))/\st.get ⟨162000000,n0⟩=some ⟨true,2,[ae p]⟩/\st.get ⟨162000001,n0⟩=some ⟨true,1,[[.bI]]⟩/\(n0+2<=st.next/\∃v,st.get ⟨162001001,n0+1⟩=some ⟨true,1,[[v]]⟩/\Yc (n0+2) (jw q (l.take i)) v st.get st.next)) (l.length) ⟨0,ah,ah,sl @ae.eq_1,sl @ae.eq_1,sl @ae.eq_1,sl @ae.eq_1,by(try dsimp only);exact⟨ah,.bI,sd @Nat.zero_add,.inl ⟨rfl,rfl⟩⟩⟩ ?_
 rintro n_a env_a st_a ⟨i,rfl,ale,a9,a8,ag0,ag1,ke⟩ dv
 have a0:=dv 0 (by kernel_rfl);have a2:=dv 2 (by kernel_rfl);have a4:=dv 4 (by kernel_rfl);have a6:=dv 6 (by kernel_rfl);have a7:=dv 7 (by kernel_rfl)
 simp only[go_sem, ↓reduceIte,Nat.reduceEqDiff,Nat.reduceAdd,Nat.reduceSub,Nat.reduceLeDiff,reduceCtorEq,ae]at a0 a2 a4 a6 a7
 clear dv
 obtain⟨an,v,av,aG⟩:=ke
 have vA:=db (i:=⟨162000000,n0⟩) (n:=st_a.next) aT
 have vB:=db (i:=⟨162000001,n0⟩) (n:=st_a.next) aT
 have vC:=db (i:=⟨162001001,n0+1⟩) (n:=st_a.next) aT
 have O7:=JS q (l.take i)
 rw[List.length_take]at O7
 by_cases hi:(i:Int)<(l.length:Int)
 ·have cq:∀{e:Env} {gg:Rows} {nx:Nat},(e 9=.int .i64 (IntKind.i64.wrap ((i:Int)+1)))->(e 8=.bool (wD q (l.take (i+1))))->(gg ⟨162000000,n0⟩=some ⟨true,2,[ae p]⟩)->(gg ⟨162000001,n0⟩=some ⟨true,1,[[.bI]]⟩)->(n0+2<=nx/\∃v,gg ⟨162001001,n0+1⟩=some ⟨true,1,[[v]]⟩/\Yc (n0+2) (jw q (l.take (i+1))) v gg nx)->∃m0,m0<(l.length)-i/\∃i:Nat,m0=(l.length)-i/\i<=(l.length)/\e 9=.int .i64 (i:Int)/\e 8=.bool (wD q (l.take i))/\gg ⟨162000000,n0⟩=some ⟨true,2,[ae p]⟩/\gg ⟨162000001,n0⟩=some ⟨true,1,[[.bI]]⟩/\(n0+2<=nx/\∃v,gg ⟨162001001,n0+1⟩=some ⟨true,1,[[v]]⟩/\Yc (n0+2) (jw q (l.take i)) v gg nx):=fun x1 x2 x3 x4 x5=>⟨_,ah,i+1,rfl,ah,(by rw[x1,ay ah]),x2,x3,x4,x5⟩
  have fZ:i<l.length:=ah
  have jF:=fF fZ
  have ei:=mz p (aL l i).aJ
  have nj:=yY fZ
  have ZU:iS q.aJ (aL l i).aJ=iS p (aL l i).aJ:=by rw[hq]
  have ik:(l.map ab).length=l.length:=by simp
  have NU:=xF q (l.take i) (aL l i)
  rw[<-nj,ZU]at NU
  rw[ae,ae]at ei
  by_cases hc:wD q (l.take i)=true∨iS p (aL l i).aJ=false
  ·have mc:=MJ (q:=q) (y:=aL l i) (l:=l.take i) (by rw[ZU];exact hc)
   rw[<-nj]at mc
   generalize jw q (l.take i)=L at aG mc O7
   have qY:=tg L (aL l i)
   have qw:=Eh L (aL l i)
   have nw:wD q (l.take (i+1))=wD q (l.take i):=by
    rw[NU]
    rcases hc with h|h<;>rw[h]<;>simp
   rcases aG with⟨hL,rfl⟩|⟨o,rfl,ao,Qy,KW⟩
   ·subst hL
    cases hd:wD q (l.take i)
    ·have h2:iS p (aL l i).aJ=false:=by rcases hc with h|h;rw[hd]at h;cases h;exact h
     rw[h2]at ei
     rw[hd]at a8 nw
     (repeat(first|((repeat(revert hN;revert N;apply Pn.out));refine wk (tw @a9 (tw @a8 (tw @ag0 (tw @ag1 (tw @a0 (tw @a2 (tw @a4 (tw @a6 (tw @a7 (tw @hi (tw @jF (tw @vA (tw @vB (tw @vC (tw @av (tw @ik (tw @ae.eq_1 @ab.eq_1))))))))))))))))) ?_;(repeat(refine Pn.mk ?_;intro N hN)))|((try apply Or.inl);refine⟨_,au.x (ei) (sd (tw @a9 (tw @a8 (tw @ag0 (tw @ag1 (tw @a0 (tw @a2 (tw @a4 (tw @a6 (tw @a7 (tw @hi (tw @jF (tw @vA (tw @vB (tw @vC (tw @av (tw @ik (tw @ae.eq_1 @ab.eq_1)))))))))))))))))),?_⟩;refine hN _ _ ?_;clear hN N)))
     refine cq ?_ ?_ ?_ ?_ (by(try dsimp only);exact⟨ah,_,sl @Nat.zero_add,.inr ⟨⟨162009010,st_a.next+1+1⟩,by rw[mc,qY]<;>(simp only[go_sem, ↓reduceIte,Nat.reduceEqDiff,Nat.reduceAdd,Nat.reduceSub,Nat.reduceLeDiff,reduceCtorEq]<;>rfl),by rw[mc,qw]<;>(simp only[go_sem, ↓reduceIte,Nat.reduceEqDiff,Nat.reduceAdd,Nat.reduceSub,Nat.reduceLeDiff,reduceCtorEq]<;>rfl),aT,aT⟩⟩)
     all_goals simp only[go_sem, ↓reduceIte,Nat.reduceEqDiff,Nat.reduceAdd,Nat.reduceSub,Nat.reduceLeDiff,reduceCtorEq,a9,a8,ag0,ag1,a0,a2,a4,a6,a7,nw,vA,vB,vC,ae]
    ·rw[hd]at a8 nw
     (try((repeat(revert hN;revert N;apply Pn.out));refine wk (tw @a9 (tw @a8 (tw @ag0 (tw @ag1 (tw @a0 (tw @a2 (tw @a4 (tw @a6 (tw @a7 (tw @hi (tw @jF (tw @vA (tw @vB (tw @vC (tw @av (tw @ik (tw @ae.eq_1 @ab.eq_1))))))))))))))))) ?_;(repeat(refine Pn.mk ?_;intro N hN))))
     refine cq ?_ ?_ ?_ ?_ (by(try dsimp only);exact⟨ah,_,sl @Nat.zero_add,.inr ⟨⟨162009010,st_a.next+1+1⟩,by rw[mc,qY]<;>(simp only[go_sem, ↓reduceIte,Nat.reduceEqDiff,Nat.reduceAdd,Nat.reduceSub,Nat.reduceLeDiff,reduceCtorEq]<;>rfl),by rw[mc,qw]<;>(simp only[go_sem, ↓reduceIte,Nat.reduceEqDiff,Nat.reduceAdd,Nat.reduceSub,Nat.reduceLeDiff,reduceCtorEq]<;>rfl),aT,aT⟩⟩)
     all_goals simp only[go_sem, ↓reduceIte,Nat.reduceEqDiff,Nat.reduceAdd,Nat.reduceSub,Nat.reduceLeDiff,reduceCtorEq,a9,a8,ag0,ag1,a0,a2,a4,a6,a7,nw,vA,vB,vC,ae]
   ·have vo:=db KW
    have oA:=bH (a:=⟨162000000,n0⟩) (b:=o) aT
    have oB:=bH (a:=⟨162000001,n0⟩) (b:=o) aT
    have oC:=bH (a:=⟨162001001,n0+1⟩) (b:=o) aT
    have QG:(L.map ab).length=L.length:=by simp
    have DD:L.length<=16777215:=ah
    cases hd:wD q (l.take i)
    ·have h2:iS p (aL l i).aJ=false:=by rcases hc with h|h;rw[hd]at h;cases h;exact h
     rw[h2]at ei
     rw[hd]at a8 nw
     (repeat(first|((repeat(revert hN;revert N;apply Pn.out));refine wk (tw @a9 (tw @a8 (tw @ag0 (tw @ag1 (tw @a0 (tw @a2 (tw @a4 (tw @a6 (tw @a7 (tw @hi (tw @jF (tw @vA (tw @vB (tw @vC (tw @vo (tw @oA (tw @oB (tw @oC (tw @ao (tw @av (tw @ik (tw @QG (tw @DD (tw @ae.eq_1 @ab.eq_1)))))))))))))))))))))))) ?_;(repeat(refine Pn.mk ?_;intro N hN)))|((try apply Or.inl);refine⟨_,au.x (ei) (sd (tw @a9 (tw @a8 (tw @ag0 (tw @ag1 (tw @a0 (tw @a2 (tw @a4 (tw @a6 (tw @a7 (tw @hi (tw @jF (tw @vA (tw @vB (tw @vC (tw @vo (tw @oA (tw @oB (tw @oC (tw @ao (tw @av (tw @ik (tw @QG (tw @DD (tw @ae.eq_1 @ab.eq_1))))))))))))))))))))))))),?_⟩;refine hN _ _ ?_;clear hN N)))
     refine cq ?_ ?_ ?_ ?_ (by(try dsimp only);exact⟨ah,_,sl @Nat.zero_add,.inr ⟨⟨162009010,st_a.next+1+1⟩,by rw[mc,qY]<;>(simp only[go_sem, ↓reduceIte,Nat.reduceEqDiff,Nat.reduceAdd,Nat.reduceSub,Nat.reduceLeDiff,reduceCtorEq]<;>rfl),by rw[mc,qw]<;>(simp only[go_sem, ↓reduceIte,Nat.reduceEqDiff,Nat.reduceAdd,Nat.reduceSub,Nat.reduceLeDiff,reduceCtorEq]<;>rfl),aT,aT⟩⟩)
     all_goals simp only[go_sem, ↓reduceIte,Nat.reduceEqDiff,Nat.reduceAdd,Nat.reduceSub,Nat.reduceLeDiff,reduceCtorEq,a9,a8,ag0,ag1,a0,a2,a4,a6,a7,nw,vA,vB,vC,oA,oB,oC,ae]
    ·rw[hd]at a8 nw
     (try((repeat(revert hN;revert N;apply Pn.out));refine wk (tw @a9 (tw @a8 (tw @ag0 (tw @ag1 (tw @a0 (tw @a2 (tw @a4 (tw @a6 (tw @a7 (tw @hi (tw @jF (tw @vA (tw @vB (tw @vC (tw @vo (tw @oA (tw @oB (tw @oC (tw @ao (tw @av (tw @ik (tw @QG (tw @DD (tw @ae.eq_1 @ab.eq_1)))))))))))))))))))))))) ?_;(repeat(refine Pn.mk ?_;intro N hN))))
     refine cq ?_ ?_ ?_ ?_ (by(try dsimp only);exact⟨ah,_,sl @Nat.zero_add,.inr ⟨⟨162009010,st_a.next+1+1⟩,by rw[mc,qY]<;>(simp only[go_sem, ↓reduceIte,Nat.reduceEqDiff,Nat.reduceAdd,Nat.reduceSub,Nat.reduceLeDiff,reduceCtorEq]<;>rfl),by rw[mc,qw]<;>(simp only[go_sem, ↓reduceIte,Nat.reduceEqDiff,Nat.reduceAdd,Nat.reduceSub,Nat.reduceLeDiff,reduceCtorEq]<;>rfl),aT,aT⟩⟩)
     all_goals simp only[go_sem, ↓reduceIte,Nat.reduceEqDiff,Nat.reduceAdd,Nat.reduceSub,Nat.reduceLeDiff,reduceCtorEq,a9,a8,ag0,ag1,a0,a2,a4,a6,a7,nw,vA,vB,vC,oA,oB,oC,ae]
  ·have hd:wD q (l.take i)=false:=by
    cases h:wD q (l.take i)
    ·rfl
    ·exact absurd (.inl h) hc
   have h2:iS p (aL l i).aJ=true:=by
    cases h:iS p (aL l i).aJ
    ·exact absurd (.inr h) hc
    ·rfl
   have mc:=MI (q:=q) (y:=aL l i) hd (by rw[ZU];exact h2)
   rw[<-nj]at mc
   have nw:wD q (l.take (i+1))=true:=by rw[NU,h2];simp
   rw[hd]at a8
   rw[h2]at ei
   have XP:ab q=[.int .i64 p.eE,.int .i64 p.ez,.int .i64 t]:=by rw[hq];rfl
   generalize jw q (l.take i)=L at aG mc O7
   have qY:=tg (L++[q]) (aL l i)
   have qw:=Eh (L++[q]) (aL l i)
   have ZI:=tg L q
   have ZJ:(L++[q]).map ab=L.map ab++[[.int .i64 p.eE,.int .i64 p.ez,.int .i64 t]]:=by rw[List.map_append,List.map_singleton,XP]
   rw[ZI]at qY
   rw[ZJ]at qw
   rcases aG with⟨hL,rfl⟩|⟨o,rfl,ao,Qy,KW⟩
   ·subst hL
    (repeat(first|((repeat(revert hN;revert N;apply Pn.out));refine wk (tw @a9 (tw @a8 (tw @ag0 (tw @ag1 (tw @a0 (tw @a2 (tw @a4 (tw @a6 (tw @a7 (tw @hi (tw @jF (tw @vA (tw @vB (tw @vC (tw @av (tw @ik (tw @ae.eq_1 @ab.eq_1))))))))))))))))) ?_;(repeat(refine Pn.mk ?_;intro N hN)))|((try apply Or.inl);refine⟨_,au.x (ei) (sd (tw @a9 (tw @a8 (tw @ag0 (tw @ag1 (tw @a0 (tw @a2 (tw @a4 (tw @a6 (tw @a7 (tw @hi (tw @jF (tw @vA (tw @vB (tw @vC (tw @av (tw @ik (tw @ae.eq_1 @ab.eq_1)))))))))))))))))),?_⟩;refine hN _ _ ?_;clear hN N)))
    refine cq ?_ ?_ ?_ ?_ (by(try dsimp only);exact⟨ah,_,sl @Nat.zero_add,.inr ⟨⟨162009010,st_a.next+1+1+1+1⟩,by rw[mc,qY]<;>(simp only[go_sem, ↓reduceIte,Nat.reduceEqDiff,Nat.reduceAdd,Nat.reduceSub,Nat.reduceLeDiff,reduceCtorEq]<;>rfl),by rw[mc,qw]<;>(simp only[go_sem, ↓reduceIte,Nat.reduceEqDiff,Nat.reduceAdd,Nat.reduceSub,Nat.reduceLeDiff,reduceCtorEq]<;>rfl),aT,aT⟩⟩)
    all_goals simp only[go_sem, ↓reduceIte,Nat.reduceEqDiff,Nat.reduceAdd,Nat.reduceSub,Nat.reduceLeDiff,reduceCtorEq,a9,a8,ag0,ag1,a0,a2,a4,a6,a7,nw,vA,vB,vC,ae]
   ·have vo:=db KW
    have oA:=bH (a:=⟨162000000,n0⟩) (b:=o) aT
    have oB:=bH (a:=⟨162000001,n0⟩) (b:=o) aT
    have oC:=bH (a:=⟨162001001,n0+1⟩) (b:=o) aT
    have QG:(L.map ab).length=L.length:=by simp
    have DD:L.length<=16777214:=ah
    have Vi:L.length<=16777215:=ah
    (repeat(first|((repeat(revert hN;revert N;apply Pn.out));refine wk (tw @a9 (tw @a8 (tw @ag0 (tw @ag1 (tw @a0 (tw @a2 (tw @a4 (tw @a6 (tw @a7 (tw @hi (tw @jF (tw @vA (tw @vB (tw @vC (tw @vo (tw @oA (tw @oB (tw @oC (tw @ao (tw @av (tw @ik (tw @QG (tw @DD (tw @Vi (tw @ae.eq_1 @ab.eq_1))))))))))))))))))))))))) ?_;(repeat(refine Pn.mk ?_;intro N hN)))|((try apply Or.inl);refine⟨_,au.x (ei) (sd (tw @a9 (tw @a8 (tw @ag0 (tw @ag1 (tw @a0 (tw @a2 (tw @a4 (tw @a6 (tw @a7 (tw @hi (tw @jF (tw @vA (tw @vB (tw @vC (tw @vo (tw @oA (tw @oB (tw @oC (tw @ao (tw @av (tw @ik (tw @QG (tw @DD (tw @Vi (tw @ae.eq_1 @ab.eq_1)))))))))))))))))))))))))),?_⟩;refine hN _ _ ?_;clear hN N)))
    refine cq ?_ ?_ ?_ ?_ (by(try dsimp only);exact⟨ah,_,sl @Nat.zero_add,.inr ⟨⟨162009010,st_a.next+1+1+1+1⟩,by rw[mc,qY]<;>(simp only[go_sem, ↓reduceIte,Nat.reduceEqDiff,Nat.reduceAdd,Nat.reduceSub,Nat.reduceLeDiff,reduceCtorEq]<;>rfl),by rw[mc,qw]<;>(simp only[go_sem, ↓reduceIte,Nat.reduceEqDiff,Nat.reduceAdd,Nat.reduceSub,Nat.reduceLeDiff,reduceCtorEq]<;>rfl),aT,aT⟩⟩)
    all_goals simp only[go_sem, ↓reduceIte,Nat.reduceEqDiff,Nat.reduceAdd,Nat.reduceSub,Nat.reduceLeDiff,reduceCtorEq,a9,a8,ag0,ag1,a0,a2,a4,a6,a7,nw,vA,vB,vC,oA,oB,oC,ae]
 ·have mb:i=l.length:=ah
  subst mb
  rw[List.take_length]at a8 aG O7
  cases hd:wD q l
  ·rw[hd]at a8
   have mc:iO l ⟨p,t⟩=jw q l++[q]:=by rw[<-hq,EB hd,jw,hd];simp
   have XP:ab q=[.int .i64 p.eE,.int .i64 p.ez,.int .i64 t]:=by rw[hq];rfl
   generalize jw q l=L at aG O7 mc
   have qY:=tg L q
   have qw:(L++[q]).map ab=L.map ab++[[.int .i64 p.eE,.int .i64 p.ez,.int .i64 t]]:=by rw[List.map_append,List.map_singleton,XP]
   rcases aG with⟨hL,rfl⟩|⟨o,rfl,ao,Qy,KW⟩
   ·subst hL
    (try((repeat(revert hN;revert N;apply Pn.out));refine wk (tw @a9 (tw @a8 (tw @ag0 (tw @ag1 (tw @a0 (tw @a2 (tw @a4 (tw @a6 (tw @a7 (tw @hi (tw @vA (tw @vB (tw @vC (tw @av (tw @ae.eq_1 @ab.eq_1))))))))))))))) ?_;(repeat(refine Pn.mk ?_;intro N hN))))
    exact eS (.inl rfl) (vs:=[.agg [.own ⟨162011006,st_a.next+1+1⟩ 0 1]]) (sd (tw @a9 (tw @a8 (tw @ag0 (tw @ag1 (tw @a0 (tw @a2 (tw @a4 (tw @a6 (tw @a7 @vB)))))))))) ⟨⟨162011006,st_a.next+1+1⟩,by rw[mc];rfl,by rw[mc];simp only[go_sem, ↓reduceIte,Nat.reduceEqDiff,Nat.reduceAdd,Nat.reduceSub,Nat.reduceLeDiff,reduceCtorEq,vB];rw[XP],aT,aT⟩
   ·have vo:=db KW
    have oA:=bH (a:=⟨162000000,n0⟩) (b:=o) aT
    have oB:=bH (a:=⟨162000001,n0⟩) (b:=o) aT
    have oC:=bH (a:=⟨162001001,n0+1⟩) (b:=o) aT
    have QG:(L.map ab).length=L.length:=by simp
    have DD:L.length<=16777215:=ah
    (try((repeat(revert hN;revert N;apply Pn.out));refine wk (tw @a9 (tw @a8 (tw @ag0 (tw @ag1 (tw @a0 (tw @a2 (tw @a4 (tw @a6 (tw @a7 (tw @hi (tw @vA (tw @vB (tw @vC (tw @vo (tw @oA (tw @oB (tw @oC (tw @ao (tw @av (tw @QG (tw @DD (tw @ae.eq_1 @ab.eq_1)))))))))))))))))))))) ?_;(repeat(refine Pn.mk ?_;intro N hN))))
    exact eS (.inl rfl) (vs:=[.agg [.own ⟨162011006,st_a.next+1+1⟩ 0 (L.length+1)]]) (sd (tw @a9 (tw @a8 (tw @ag0 (tw @ag1 (tw @a0 (tw @a2 (tw @a4 (tw @a6 (tw @a7 @vB)))))))))) ⟨⟨162011006,st_a.next+1+1⟩,by rw[mc,qY];rfl,by rw[mc,qw];simp only[go_sem, ↓reduceIte,Nat.reduceEqDiff,Nat.reduceAdd,Nat.reduceSub,Nat.reduceLeDiff,reduceCtorEq,vB],aT,aT⟩
  ·rw[hd]at a8
   have mc:iO l ⟨p,t⟩=jw q l:=by rw[<-hq,jw,hd];simp
   have jO:0<(jw q l).length:=by rw[<-mc,qd];omega
   generalize jw q l=L at aG O7 jO mc
   rcases aG with⟨hL,rfl⟩|⟨o,rfl,ao,Qy,KW⟩
   ·subst hL;cases jO
   ·have vo:=db KW
    have oB:=bH (a:=⟨162000001,n0⟩) (b:=o) aT
    (try((repeat(revert hN;revert N;apply Pn.out));refine wk (tw @a9 (tw @a8 (tw @ag0 (tw @ag1 (tw @a0 (tw @a2 (tw @a4 (tw @a6 (tw @a7 (tw @hi (tw @vA (tw @vB (tw @vC (tw @vo (tw @ao (tw @av (tw @ae.eq_1 @ab.eq_1))))))))))))))))) ?_;(repeat(refine Pn.mk ?_;intro N hN))))
    exact eS (.inl rfl) (vs:=[.agg [.own o 0 L.length]]) (sd (tw @a9 (tw @a8 (tw @ag0 (tw @ag1 (tw @a0 (tw @a2 (tw @a4 (tw @a6 (tw @a7 @vB)))))))))) ⟨o,by rw[mc];rfl,by rw[mc];simp only[go_sem, ↓reduceIte,Nat.reduceEqDiff,Nat.reduceAdd,Nat.reduceSub,Nat.reduceLeDiff,reduceCtorEq,vB,oB,ao],aT,aT⟩
def pQ (s:ax) (F:aq->Int) (p:aq) (d:Nat):Int:=if F (bt p d)<0 then 0 else dt (du s (F (bt p d))) (ko d)
def pR (s:ax) (F:aq->Int) (p:aq) (k:Nat):List Int:=(List.range k).map (pQ s F p)
theorem Dv (s:ax) (F:aq->Int) (p:aq) (k:Nat):(pR s F p k).length=k:=by simp[pR]
theorem I0 (s:ax) (F:aq->Int) (p:aq) (k:Nat):pR s F p (k+1)=pR s F p k++[pQ s F p k]:=by simp[pR,List.range_succ]
theorem LC {s:ax} {F:aq->Int} {p:aq} {k d:Nat} (h:d<k):((pR s F p k).map aU)[d]? =some [.int .i64 (pQ s F p d)]:=by simp[pR,h,aU]
theorem IL {s:ax} (hF:js s) {F:aq->Int} (hT:∀q,0<=F q->eH s (F q)=true) {p:aq} {t:Int} (ht:eH s t=true) {d:Nat} (hd:d<4):
  dm s F p t (d+1)=if dt (du s t) d=pQ s F p d then dm s F p t d+rf s (pQ s F p d)else dm s F p t d:=by
 rw[dm]
 unfold pQ
 by_cases h0:F (bt p d)<0
 ·rw[if_neg ah,if_pos h0]
  have:rf s 0=0:=if_pos rfl
  rw[this,Int.add_zero]
  split<;>rfl
 ·rw[if_pos ah,if_neg h0]
  unfold iH
  split
  ·rename_i e;rw[e]
  ·rw[Int.add_zero]
theorem ON {s:ax} (hF:js s) {F:aq->Int} (hT:∀q,0<=F q->eH s (F q)=true) (p:aq) {d:Nat} (hd:d<4):0<=pQ s F p d/\pQ s F p d<=s.aB.length:=by
 unfold pQ
 split
 ·exact⟨Int.le_refl _,ah⟩
 ·rename_i h0
  obtain⟨_,_,a2⟩:=kV (hT _ (by omega:0<=F (bt p d)))
  exact hF.vG _ a2 _ (yR (hF.rD _ a2) (sb (jm ah)))
noncomputable def A8 (s:ax) (l:List aa) (T:Int) (p:aq) (t:Int):Bool:=decide (T<=oH s (fU l) p t)
theorem Ol {s:aE} {l:List aa} {p:aq} (h:CL l p) (hA:jZ s.aC l) (t:Int):ew s l p t=A8 s.aC l s.az p t:=by
 obtain⟨h1,h2,_⟩:=h
 simp[ew,A8,h1,(Ft hA p).2 h2]
theorem Px (s:ax) (hS:iG s) (l:List aa) (hA:jZ s l) (p:aq) (hx:iB p.eE) (hy:iB p.ez) (T:Int):
  au Tryz.prog 148 [.dn (ad s),.dn [.sl (l.map ab)],.agg (ae p),.int .i64 T] (.sl ((lH (A8 s l T) p s.ai.length).map aU)):=by
 refine au.body eF rfl fun kP n0=>?_
 clear kP
 have hF:=hS.form
 have Fb:=hS.wg
 have Y9:∀q,0<=fU l q->eH s (fU l q)=true:=iG.K0 hA
 (try((repeat(revert hN;revert N;apply Pn.out));refine wk @ae.eq_1 ?_;(repeat(refine Pn.mk ?_;intro N hN))))
 refine aQ (fun n env st=>∃k:Nat,n=(4)-k/\k<=(4)/\env 10=.int .i64 (k:Int)/\st.get ⟨148000000,n0⟩=some ⟨true,2,[ae p]⟩/\(n0+2<=st.next/\∃o:Id,env 9=.own o 0 k/\st.get o=some ⟨true,1,(pR s (fU l) p k).map aU⟩/\n0<o.bj/\o.bj<st.next)) (4) ⟨0,ah,ah,sl @ae.eq_1,sl @ae.eq_1,by(try dsimp only);exact⟨ah,⟨148001000,n0+1⟩,sl @Nat.zero_add,sl @Nat.zero_add,aT,aT⟩⟩ ?_
 rintro n_a env_a st_a ⟨k,rfl,ale,zh,ag0,ke⟩ dv
 have a0:=dv 0 (by kernel_rfl);have a1:=dv 1 (by kernel_rfl);have a3:=dv 3 (by kernel_rfl);have a6:=dv 6 (by kernel_rfl)
 simp only[go_sem, ↓reduceIte,Nat.reduceEqDiff,Nat.reduceAdd,Nat.reduceSub,Nat.reduceLeDiff,reduceCtorEq,ae]at a0 a1 a3 a6
 clear dv
 obtain⟨an,o,a9,ag,KW,aox⟩:=ke
 have vo:=db aox
 have vb:=db (i:=⟨148000000,n0⟩) (n:=st_a.next) aT
 have ob:=bH (a:=⟨148000000,n0⟩) (b:=o) aT
 by_cases hk:(k:Int)<4
 ·have cq:∀{e:Env} {gg:Rows} {nx:Nat},(e 10=.int .i64 (IntKind.i64.wrap ((k:Int)+1)))->(gg ⟨148000000,n0⟩=some ⟨true,2,[ae p]⟩)->(n0+2<=nx/\∃o:Id,e 9=.own o 0 (k+1)/\gg o=some ⟨true,1,(pR s (fU l) p (k+1)).map aU⟩/\n0<o.bj/\o.bj<nx)->∃m0,m0<(4)-k/\∃k:Nat,m0=(4)-k/\k<=(4)/\e 10=.int .i64 (k:Int)/\gg ⟨148000000,n0⟩=some ⟨true,2,[ae p]⟩/\(n0+2<=nx/\∃o:Id,e 9=.own o 0 k/\gg o=some ⟨true,1,(pR s (fU l) p k).map aU⟩/\n0<o.bj/\o.bj<nx):=fun x1 x2 x3=>⟨_,ah,k+1,rfl,ah,(by rw[x1,ay ah]),x2,x3⟩
  have hd:iV (k:Int) 0 3=true:=jm ah
  have dC:=uK p k hd hx hy
  have tW:=Pv l (bt p k) hA.1.P8 (by have:=hA.1.zm;omega)
  rw[ae]at dC tW
  have ik:((pR s (fU l) p k).map aU).length=k:=by rw[List.length_map,Dv]
  have sw:k<=16777215:=ah
  have F7:=I0 s (fU l) p k
  have ua:(pR s (fU l) p (k+1)).map aU=(pR s (fU l) p k).map aU++[[.int .i64 (pQ s (fU l) p k)]]:=by rw[F7,List.map_append];rfl
  by_cases h0:fU l (bt p k)<0
  ·have tY:pQ s (fU l) p k=0:=if_pos h0
   rw[tY]at ua
   (repeat(first|((repeat(revert hN;revert N;apply Pn.out));refine wk (tw @zh (tw @ag0 (tw @a0 (tw @a1 (tw @a3 (tw @a6 (tw @hk (tw @a9 (tw @ag (tw @vo (tw @vb (tw @ob (tw @ik (tw @sw (tw @h0 @ae.eq_1))))))))))))))) ?_;(repeat(refine Pn.mk ?_;intro N hN)))|((try apply Or.inl);refine⟨_,au.x (dC) (sd (tw @zh (tw @ag0 (tw @a0 (tw @a1 (tw @a3 (tw @a6 (tw @hk (tw @a9 (tw @ag (tw @vo (tw @vb (tw @ob (tw @ik (tw @sw (tw @h0 @ae.eq_1)))))))))))))))),?_⟩;refine hN _ _ ?_;clear hN N)|((try apply Or.inl);refine⟨_,au.x (tW) (sd (tw @zh (tw @ag0 (tw @a0 (tw @a1 (tw @a3 (tw @a6 (tw @hk (tw @a9 (tw @ag (tw @vo (tw @vb (tw @ob (tw @ik (tw @sw (tw @h0 @ae.eq_1)))))))))))))))),?_⟩;refine hN _ _ ?_;clear hN N)))
   refine cq ?_ ?_ (by(try dsimp only);exact⟨ah,⟨148007002,st_a.next+1+1+1⟩,sl @Nat.zero_add,by rw[ua];simp only[go_sem, ↓reduceIte,Nat.reduceEqDiff,Nat.reduceAdd,Nat.reduceSub,Nat.reduceLeDiff,reduceCtorEq]<;>rfl,aT,aT⟩)
   all_goals simp only[go_sem, ↓reduceIte,Nat.reduceEqDiff,Nat.reduceAdd,Nat.reduceSub,Nat.reduceLeDiff,reduceCtorEq,zh,ag0,a0,a1,a3,a6,vb,ob,ae]
  ·have tY:pQ s (fU l) p k=dt (du s (fU l (bt p k))) (ko k):=if_neg h0
   rw[tY]at ua
   obtain⟨b0,b1,b2⟩:=kV (Y9 _ (by omega:0<=fU l (bt p k)))
   have s2:=l6 (hF.rD _ b2) (sb hd)
   have d1:=(dB (sb hd)).1
   have ej:=xk k hd
   (repeat(first|((repeat(revert hN;revert N;apply Pn.out));refine wk (tw @zh (tw @ag0 (tw @a0 (tw @a1 (tw @a3 (tw @a6 (tw @hk (tw @a9 (tw @ag (tw @vo (tw @vb (tw @ob (tw @ik (tw @sw (tw @h0 (tw @b0 (tw @b1 (tw @s2 (tw @d1 (tw @ae.eq_1 (tw @ad.eq_1 @bR.eq_1))))))))))))))))))))) ?_;(repeat(refine Pn.mk ?_;intro N hN)))|((try apply Or.inl);refine⟨_,au.x (dC) (sd (tw @zh (tw @ag0 (tw @a0 (tw @a1 (tw @a3 (tw @a6 (tw @hk (tw @a9 (tw @ag (tw @vo (tw @vb (tw @ob (tw @ik (tw @sw (tw @h0 (tw @b0 (tw @b1 (tw @s2 (tw @d1 (tw @ae.eq_1 (tw @ad.eq_1 @bR.eq_1)))))))))))))))))))))),?_⟩;refine hN _ _ ?_;clear hN N)|((try apply Or.inl);refine⟨_,au.x (tW) (sd (tw @zh (tw @ag0 (tw @a0 (tw @a1 (tw @a3 (tw @a6 (tw @hk (tw @a9 (tw @ag (tw @vo (tw @vb (tw @ob (tw @ik (tw @sw (tw @h0 (tw @b0 (tw @b1 (tw @s2 (tw @d1 (tw @ae.eq_1 (tw @ad.eq_1 @bR.eq_1)))))))))))))))))))))),?_⟩;refine hN _ _ ?_;clear hN N)|((try apply Or.inl);refine⟨_,au.x (ej) (sd (tw @zh (tw @ag0 (tw @a0 (tw @a1 (tw @a3 (tw @a6 (tw @hk (tw @a9 (tw @ag (tw @vo (tw @vb (tw @ob (tw @ik (tw @sw (tw @h0 (tw @b0 (tw @b1 (tw @s2 (tw @d1 (tw @ae.eq_1 (tw @ad.eq_1 @bR.eq_1)))))))))))))))))))))),?_⟩;refine hN _ _ ?_;clear hN N)))
   refine cq ?_ ?_ (by(try dsimp only);exact⟨ah,⟨148008014,st_a.next+1+1+1⟩,sl @Nat.zero_add,by rw[ua];simp only[go_sem, ↓reduceIte,Nat.reduceEqDiff,Nat.reduceAdd,Nat.reduceSub,Nat.reduceLeDiff,reduceCtorEq]<;>rfl,aT,aT⟩)
   all_goals simp only[go_sem, ↓reduceIte,Nat.reduceEqDiff,Nat.reduceAdd,Nat.reduceSub,Nat.reduceLeDiff,reduceCtorEq,zh,ag0,a0,a1,a3,a6,vb,ob,ae]
 ·have Zt:k=4:=ah
  subst Zt
  (try((repeat(revert hN;revert N;apply Pn.out));refine wk (tw @zh (tw @ag0 (tw @a0 (tw @a1 (tw @a3 (tw @a6 (tw @hk @ad.eq_1))))))) ?_;(repeat(refine Pn.mk ?_;intro N hN))))
  refine aQ (fun n env st=>∃i:Nat,n=(s.ai.length)-i/\i<=(s.ai.length)/\env 13=.int .i64 (i:Int)/\(st_a.next<=st.next/\st.get o=some ⟨true,1,(pR s (fU l) p 4).map aU⟩/\∃u:Id,env 12=.own u 0 (lH (A8 s l T) p i).length/\st.get u=some ⟨true,1,(lH (A8 s l T) p i).map aU⟩/\st_a.next<=u.bj/\u.bj<st.next)) (s.ai.length) ⟨0,ah,ah,sl (tw @zh (tw @ag0 (tw @a0 (tw @a1 (tw @a3 (tw @a6 (tw @a9 @ad.eq_1))))))),by(try dsimp only);exact⟨ah,sd (tw @vo @ag),⟨148009000,st_a.next+1⟩,sl @Nat.zero_add,sl @Nat.zero_add,aT,aT⟩⟩ ?_
  rintro n_b env_b st_b ⟨i,rfl,ble,Fv,bI0⟩ eI
  have b0:=eI 0 (by kernel_rfl);have b1:=eI 1 (by kernel_rfl);have b3:=eI 3 (by kernel_rfl);have b9:=eI 9 (by kernel_rfl)
  simp only[go_sem, ↓reduceIte,Nat.reduceEqDiff,Nat.reduceAdd,Nat.reduceSub,Nat.reduceLeDiff,reduceCtorEq,zh,ag0,a0,a1,a3,a6,a9,ad]at b0 b1 b3 b9
  clear eI
  obtain⟨bn,bo,u,UQ,bu,bum,bux⟩:=bI0
  have vob:=db (i:=o) (n:=st_b.next) ah
  have vub:=db bux
  have E5:=sY (A8 s l T) p i
  have ou:=bH (a:=o) (b:=u) ah
  by_cases hi:(i:Int)<(s.ai.length:Int)
  ·have eZ:∀{e:Env} {gg:Rows} {nx:Nat},(e 13=.int .i64 (IntKind.i64.wrap ((i:Int)+1)))->(st_a.next<=nx/\gg o=some ⟨true,1,(pR s (fU l) p 4).map aU⟩/\∃u:Id,e 12=.own u 0 (lH (A8 s l T) p (i+1)).length/\gg u=some ⟨true,1,(lH (A8 s l T) p (i+1)).map aU⟩/\st_a.next<=u.bj/\u.bj<nx)->∃m0,m0<(s.ai.length)-i/\∃i:Nat,m0=(s.ai.length)-i/\i<=(s.ai.length)/\e 13=.int .i64 (i:Int)/\(st_a.next<=nx/\gg o=some ⟨true,1,(pR s (fU l) p 4).map aU⟩/\∃u:Id,e 12=.own u 0 (lH (A8 s l T) p i).length/\gg u=some ⟨true,1,(lH (A8 s l T) p i).map aU⟩/\st_a.next<=u.bj/\u.bj<nx):=fun x1 x2=>⟨_,ah,i+1,rfl,ah,(by rw[x1,ay ah]),x2⟩
   have fZ:i<s.ai.length:=ah
   have htb:=EN fZ
   obtain⟨t0,t1,t2⟩:=kV htb
   rw[Int.toNat_natCast]at t1
   have F0:dm s (fU l) p i 0=0:=rfl
   (try((repeat(revert hN;revert N;apply Pn.out));refine wk (tw @Fv (tw @b0 (tw @b1 (tw @b3 (tw @b9 @hi))))) ?_;(repeat(refine Pn.mk ?_;intro N hN))))
   refine aQ (fun n env st=>∃j:Nat,n=(4)-j/\j<=(4)/\env 15=.int .i64 (j:Int)/\env 14=.int .i64 (dm s (fU l) p i j)/\(st_b.next<=st.next/\∀x:Id,x.bj<st_b.next->st.get x=st_b.get x)) (4) ⟨0,ah,ah,sl (tw @Fv (tw @b0 (tw @b1 (tw @b3 (tw @b9 (tw @a9 (tw @F0 @ad.eq_1))))))),sl (tw @Fv (tw @b0 (tw @b1 (tw @b3 (tw @b9 (tw @a9 (tw @F0 @ad.eq_1))))))),by(try dsimp only);exact⟨ah,fun x hx=>by
    have h1:=db hx
    simp only[go_sem, ↓reduceIte,Nat.reduceEqDiff,Nat.reduceAdd,Nat.reduceSub,Nat.reduceLeDiff,reduceCtorEq,h1]⟩⟩ ?_
   rintro n_c env_c st_c ⟨j,rfl,cle,c15,c14,cI0⟩ jf
   have c0:=jf 0 (by kernel_rfl);have c3:=jf 3 (by kernel_rfl);have c9:=jf 9 (by kernel_rfl);have rI:=jf 12 (by kernel_rfl);have Ld:=jf 13 (by kernel_rfl)
   simp only[go_sem, ↓reduceIte,Nat.reduceEqDiff,Nat.reduceAdd,Nat.reduceSub,Nat.reduceLeDiff,reduceCtorEq,Fv,b0,b1,b3,b9,a9,F0,ad]at c0 c3 c9 rI Ld
   clear jf
   obtain⟨cn,jf⟩:=cI0
   have go:=(jf o ah).trans bo
   have gu:=(jf u bux).trans bu
   have WG:=db (i:=o) (n:=st_c.next) ah
   have vuc:=db (i:=u) (n:=st_c.next) ah
   by_cases hj:(j:Int)<4
   ·have hZ:∀{e:Env} {gg:Rows} {nx:Nat},(e 15=.int .i64 (IntKind.i64.wrap ((j:Int)+1)))->(e 14=.int .i64 (dm s (fU l) p i (j+1)))->(st_b.next<=nx/\∀x:Id,x.bj<st_b.next->gg x=st_b.get x)->∃m0,m0<(4)-j/\∃j:Nat,m0=(4)-j/\j<=(4)/\e 15=.int .i64 (j:Int)/\e 14=.int .i64 (dm s (fU l) p i j)/\(st_b.next<=nx/\∀x:Id,x.bj<st_b.next->gg x=st_b.get x):=fun x1 x2 x3=>⟨_,ah,j+1,rfl,ah,(by rw[x1,ay ah]),x2,x3⟩
    have hdj:iV (j:Int) 0 3=true:=jm ah
    have Ky:(j:Int)<((4:Nat):Int):=ah
    have s1:=l6 (hF.rD _ t2) hdj
    rw[Int.toNat_natCast]at s1
    have VF:=LC (s:=s) (F:=fU l) (p:=p) (k:=4) (d:=j) ah
    have tZ:((pR s (fU l) p 4).map aU).length=4:=by rw[List.length_map,Dv]
    have dC:=IL hF Y9 (p:=p) htb (d:=j) ah
    have fR:=kK hS (fU l) p i (j+1)
    have OY:=kK hS (fU l) p i j
    have jF:=ON hF Y9 p (d:=j) ah
    have XS:=rq s (pQ s (fU l) p j) jF.1 jF.2
    rw[ad]at XS
    by_cases he:dt (du s i) j=pQ s (fU l) p j
    ·have Bz:decide (dt (du s i) j=pQ s (fU l) p j)=true:=decide_eq_true he
     rw[if_pos he]at dC
     have hw:IntKind.i64.wrap (dm s (fU l) p i j+rf s (pQ s (fU l) p j))=dm s (fU l) p i (j+1):=by rw[<-dC,bq ah]
     (repeat(first|((repeat(revert hN;revert N;apply Pn.out));refine wk (tw @c15 (tw @c14 (tw @c0 (tw @c3 (tw @c9 (tw @rI (tw @Ld (tw @hj (tw @Ky (tw @t1 (tw @s1 (tw @VF (tw @go (tw @WG (tw @Bz (tw @ad.eq_1 @bR.eq_1)))))))))))))))) ?_;(repeat(refine Pn.mk ?_;intro N hN)))|((try apply Or.inl);refine⟨_,au.x (XS) (sd (tw @c15 (tw @c14 (tw @c0 (tw @c3 (tw @c9 (tw @rI (tw @Ld (tw @hj (tw @Ky (tw @t1 (tw @s1 (tw @VF (tw @go (tw @WG (tw @Bz (tw @ad.eq_1 @bR.eq_1))))))))))))))))),?_⟩;refine hN _ _ ?_;clear hN N)))
     refine hZ ?_ ?_ (by(try dsimp only);exact⟨ah,fun x hx=>by exact jf x hx⟩)
     all_goals simp only[go_sem, ↓reduceIte,Nat.reduceEqDiff,Nat.reduceAdd,Nat.reduceSub,Nat.reduceLeDiff,reduceCtorEq,c15,c14,c0,c3,c9,rI,Ld,hw,ad]
    ·have Bz:decide (dt (du s i) j=pQ s (fU l) p j)=false:=decide_eq_false he
     rw[if_neg he]at dC
     (try((repeat(revert hN;revert N;apply Pn.out));refine wk (tw @c15 (tw @c14 (tw @c0 (tw @c3 (tw @c9 (tw @rI (tw @Ld (tw @hj (tw @Ky (tw @t1 (tw @s1 (tw @VF (tw @go (tw @WG (tw @Bz (tw @ad.eq_1 @bR.eq_1)))))))))))))))) ?_;(repeat(refine Pn.mk ?_;intro N hN))))
     refine hZ ?_ ?_ (by(try dsimp only);exact⟨ah,fun x hx=>by exact jf x hx⟩)
     all_goals simp only[go_sem, ↓reduceIte,Nat.reduceEqDiff,Nat.reduceAdd,Nat.reduceSub,Nat.reduceLeDiff,reduceCtorEq,c15,c14,c0,c3,c9,rI,Ld,dC,ad]
   ·have hj4:j=4:=ah
    subst hj4
    have jc:dm s (fU l) p i 4=oH s (fU l) p i:=rfl
    have ly:lH (A8 s l T) p (i+1)=if A8 s l T p i=true then lH (A8 s l T) p i++[(i:Int)]else lH (A8 s l T) p i:=rfl
    have nV:A8 s l T p i=decide (T<=oH s (fU l) p i):=rfl
    generalize lH (A8 s l T) p i=L at ly UQ bu E5 gu
    cases hb:A8 s l T p i
    ·rw[hb,if_neg (by simp)]at ly
     rw[hb]at nV
     (try((repeat(revert hN;revert N;apply Pn.out));refine wk (tw @c15 (tw @c14 (tw @c0 (tw @c3 (tw @c9 (tw @rI (tw @Ld (tw @hj (tw @jc @nV.symm))))))))) ?_;(repeat(refine Pn.mk ?_;intro N hN))))
     exact eZ (sd (tw @Fv (tw @b0 (tw @b1 (tw @b3 (tw @b9 (tw @c15 (tw @c14 (tw @c0 (tw @c3 (tw @c9 (tw @rI (tw @Ld @ad.eq_1))))))))))))) (by(try dsimp only);exact⟨ah,go,⟨u,by rw[ly];simp only[go_sem, ↓reduceIte,Nat.reduceEqDiff,Nat.reduceAdd,Nat.reduceSub,Nat.reduceLeDiff,reduceCtorEq,c15,c14,c0,c3,c9,rI,Ld,UQ],by rw[ly];simp only[go_sem, ↓reduceIte,Nat.reduceEqDiff,Nat.reduceAdd,Nat.reduceSub,Nat.reduceLeDiff,reduceCtorEq,gu],ah,aT⟩⟩)
    ·rw[hb,if_pos rfl]at ly
     rw[hb]at nV
     have ik:(L.map aU).length=L.length:=by simp
     have Y4:L.length<=16777215:=ah
     have qY:(L++[(i:Int)]).length=L.length+1:=by simp
     have qw:(L++[(i:Int)]).map aU=L.map aU++[[.int .i64 i]]:=by rw[List.map_append];rfl
     (try((repeat(revert hN;revert N;apply Pn.out));refine wk (tw @c15 (tw @c14 (tw @c0 (tw @c3 (tw @c9 (tw @rI (tw @Ld (tw @hj (tw @jc (tw @nV.symm (tw @UQ (tw @gu (tw @vuc (tw @ik (tw @Y4 (tw @WG @ou)))))))))))))))) ?_;(repeat(refine Pn.mk ?_;intro N hN))))
     exact eZ (sd (tw @Fv (tw @b0 (tw @b1 (tw @b3 (tw @b9 (tw @c15 (tw @c14 (tw @c0 (tw @c3 (tw @c9 (tw @rI (tw @Ld @ad.eq_1))))))))))))) (by(try dsimp only);exact⟨ah,sd (tw @go (tw @WG @ou)),⟨⟨148020003,st_c.next+1+1⟩,by rw[ly,qY];simp only[go_sem, ↓reduceIte,Nat.reduceEqDiff,Nat.reduceAdd,Nat.reduceSub,Nat.reduceLeDiff,reduceCtorEq]<;>rfl,by rw[ly,qw];simp only[go_sem, ↓reduceIte,Nat.reduceEqDiff,Nat.reduceAdd,Nat.reduceSub,Nat.reduceLeDiff,reduceCtorEq]<;>rfl,aT,aT⟩⟩)
  ·have mb:i=s.ai.length:=ah
   subst mb
   (try((repeat(revert hN;revert N;apply Pn.out));refine wk (tw @Fv (tw @b0 (tw @b1 (tw @b3 (tw @b9 (tw @hi @UQ)))))) ?_;(repeat(refine Pn.mk ?_;intro N hN))))
   exact oP (.inl rfl) (vs:=[.own u 0 (lH (A8 s l T) p s.ai.length).length]) (sd @UQ) (by
    simp only[fc]
    exact gq (e:=aU) (n:=5) bu rfl fun x=>by simp[aU,bW,cF,eO])
noncomputable def gM (s:aE) (ts:List aa) (q:aq):List Int:=lH (ew s ts) q s.aC.ai.length
def jb (σ:aw) (O:Id) (s:aE) (ts:List aa) (A:aq->Prop) (g:Rows) (n:Nat):Prop:=σ.next<=n/\(∀x:Id,x.bj<σ.next->x≠O->g x=σ.get x)/\∃es:List En,g O=some ⟨true,mP.lq,es.map o8⟩/\xj g n es (gM s ts) A
theorem jb.RJ {σ:aw} {g:Rows} {n:Nat} {c T O:Id} {s s':aE} {ts Oa:List aa} {A:aq->Prop} (h:CK σ.get σ.next c T O s ts) (hc:c≠O) (hT:T≠O) (k:jb σ O s' Oa A g n):CK g n c T O s ts:=
 h.frame k.1 (k.2.1 _ h.cv hc) (k.2.1 _ h.tv hT)
theorem jb.frame {a:aw} {O:Id} {s:aE} {ts:List aa} {A:aq->Prop} {g g':Rows} {n n' m:Nat} (h:jb a O s ts A g n) (ha:n<=m) (ho:O.bj<m) (hn:n<=n') (hf:∀x:Id,x.bj<m->g' x=g x):jb a O s ts A g' n':=by
 refine⟨Nat.le_trans h.1 hn,fun x hx hO=>(hf x (Nat.lt_of_lt_of_le hx (Nat.le_trans h.1 ha))).trans (h.2.1 x hx hO),?_⟩
 obtain⟨es,h1,h2⟩:=h.2.2
 exact⟨es,(hf O ho).trans h1,h2.frame hn fun x hx _=>hf x (Nat.lt_of_lt_of_le hx ha)⟩
theorem sk:¬mP.lq=1:=by decide
theorem jb.put {a:aw} {O:Id} {s:aE} {ts:List aa} {A A':aq->Prop} {g g':Rows} {n n':Nat} {es:List En} (h:jb a O s ts A g n) (hg:g O=some ⟨true,mP.lq,es.map o8⟩) (hw:xj g n es (gM s ts) A) (hn:n<=n') (hf:∀x:Id,x.bj<n->x≠O->g' x=g x) {q:aq} {o:Id} (h0:gM s ts q≠[]) (ho:o.bj<n') (wI:g' o=some ⟨true,1,(gM s ts q).map aU⟩) (hO:g' O=some ⟨true,mP.lq,(oi es q (.own o 0 (gM s ts q).length)).map o8⟩) (hA:∀p,A' p->A p∨p=q):jb a O s ts A' g' n':=
 ⟨Nat.le_trans h.1 hn,fun x hx HQ=>(hf x (Nat.lt_of_lt_of_le hx h.1) HQ).trans (h.2.1 x hx HQ),_,hO,((hw.frame hn fun x hx hr=>hf x hx (by
  rintro rfl
  obtain⟨k,r,hr⟩:=hr
  rw[hg]at hr
  injection hr with hr
  injection hr with _ hr _
  exact sk hr)).put h0 ho wI).mono hA⟩
theorem jb.cut {a:aw} {O:Id} {s:aE} {ts:List aa} {A A':aq->Prop} {g g':Rows} {n n':Nat} {es:List En} (h:jb a O s ts A g n) (hg:g O=some ⟨true,mP.lq,es.map o8⟩) (hw:xj g n es (gM s ts) A) (hn:n<=n') (hf:∀x:Id,x.bj<n->x≠O->g' x=g x) {q:aq} (h0:gM s ts q=[]) (hO:g' O=some ⟨true,mP.lq,(oZ es q).map o8⟩) (hA:∀p,A' p->A p∨p=q):jb a O s ts A' g' n':=
 ⟨Nat.le_trans h.1 hn,fun x hx HQ=>(hf x (Nat.lt_of_lt_of_le hx h.1) HQ).trans (h.2.1 x hx HQ),_,hO,((hw.frame hn fun x hx hr=>hf x hx (by
  rintro rfl
  obtain⟨k,r,hr⟩:=hr
  rw[hg]at hr
  injection hr with hr
  injection hr with _ hr _
  exact sk hr)).cut h0).mono hA⟩
theorem jb.ow {a:aw} {O:Id} {s:aE} {ts:List aa} {A:aq->Prop} {g:Rows} {n:Nat} (h:jb a O s ts A g n):Qu a O g n:=by
 obtain⟨h1,h2,es,h3,_⟩:=h
 refine⟨h1,h2,_,h3,fun r hr=>?_⟩
 obtain⟨e,_,rfl⟩:=List.mem_map.1 hr
 exact⟨_,_,_,rfl⟩
theorem th {σ:aw} {c T O:Id} {s:aE} {ts:List aa} (h:CK σ.get σ.next c T O s ts) (hc:c≠O) (hT:T≠O) (A:aq->Prop) (hO:∃es:List En,σ.get O=some ⟨true,mP.lq,es.map o8⟩/\xj σ.get σ.next es (gM s ts) A) (hS:iG s.aC) (hF:∀q,0<=fU ts q->eH s.aC (fU ts q)=true) (p:aq) (hx:iB p.eE) (hy:iB p.ez):
  Call Tryz.prog 151 [.ptr c 0 0,.agg (ae p)] σ (fun r σ'=>r=.gJ []/\jb σ O s ts (fun q=>A q∨∃k:Nat,k<4/\q=bt p k) σ'.get σ'.next):=by
 refine eA eF rfl fun kP=>?_
 clear kP
 have Fb:=hS.wg
 have h0:jb σ O s ts (fun q=>A q∨∃k:Nat,k<0/\q=bt p k) σ.get σ.next:=⟨Nat.le_refl _,fun _ _ _=>rfl,by
  obtain⟨es,h1,h2⟩:=hO
  exact⟨es,h1,h2.mono fun q hq=>hq.elim id fun⟨k,hk,_⟩=>absurd hk (Nat.not_lt_zero k)⟩⟩
 (try((repeat(revert hN;revert N;apply Pn.out));refine wk @ae.eq_1 ?_;(repeat(refine Pn.mk ?_;intro N hN))))
 refine aQ (fun n env st=>∃k:Nat,n=(4)-k/\k<=(4)/\env 8=.int .i64 (k:Int)/\st.get ⟨151000000,σ.next⟩=some ⟨true,2,[ae p]⟩/\(σ.next<st.next/\jb σ O s ts (fun q=>A q∨∃j:Nat,j<k/\q=bt p j) st.get st.next)) (4) ⟨0,ah,ah,sl @ae.eq_1,sl @ae.eq_1,⟨aT,h0.frame (Nat.le_refl _) h.ov aT (fun x hx=>by
  have:=db hx
  simp only[go_sem, ↓reduceIte,Nat.reduceEqDiff,Nat.reduceAdd,Nat.reduceSub,Nat.reduceLeDiff,reduceCtorEq,this])⟩⟩ ?_
 rintro n_a env_a st_a ⟨k,rfl,ale,a8,ag0,ke⟩ dv
 have a0:=dv 0 (by kernel_rfl);have a3:=dv 3 (by kernel_rfl)
 simp only[go_sem, ↓reduceIte,Nat.reduceEqDiff,Nat.reduceAdd,Nat.reduceSub,Nat.reduceLeDiff,reduceCtorEq,ae]at a0 a3
 clear dv
 obtain⟨an,ak⟩:=ke
 have ha:=ak.RJ h hc hT
 by_cases hk:(k:Int)<4
 ·have cq:∀{e:Env} {gg:Rows} {nx:Nat},(e 8=.int .i64 (IntKind.i64.wrap ((k:Int)+1)))->(gg ⟨151000000,σ.next⟩=some ⟨true,2,[ae p]⟩)->(σ.next<nx/\jb σ O s ts (fun q=>A q∨∃j:Nat,j<(k+1)/\q=bt p j) gg nx)->∃m0,m0<(4)-k/\∃k:Nat,m0=(4)-k/\k<=(4)/\e 8=.int .i64 (k:Int)/\gg ⟨151000000,σ.next⟩=some ⟨true,2,[ae p]⟩/\(σ.next<nx/\jb σ O s ts (fun q=>A q∨∃j:Nat,j<k/\q=bt p j) gg nx):=fun x1 x2 x3=>⟨_,ah,k+1,rfl,ah,(by rw[x1,ay ah]),x2,x3⟩
  have dC:=G0 p k (jm ah) hx hy
  obtain⟨b,h1⟩:=ha.row
  have v1:=db ha.cv
  (repeat(first|((repeat(revert hN;revert N;apply Pn.out));refine wk (tw @a8 (tw @ag0 (tw @a0 (tw @a3 (tw @hk (tw @h1 (tw @v1 @ae.eq_1))))))) ?_;(repeat(refine Pn.mk ?_;intro N hN)))|((try apply Or.inl);refine⟨_,au.x (dC) (sd (tw @a8 (tw @ag0 (tw @a0 (tw @a3 (tw @hk (tw @h1 (tw @v1 @ae.eq_1)))))))),?_⟩;refine hN _ _ ?_;clear hN N)))
  refine aQ (fun n env st=>∃t:Nat,n=(s.aC.ai.length)-t/\t<=(s.aC.ai.length)/\env 21=.int .i64 (t:Int)/\st.get ⟨151000000,σ.next⟩=some ⟨true,2,[ae p]⟩/\st.get ⟨151004003,st_a.next+1+1⟩=some ⟨true,2,[ae (bt p k)]⟩/\(st_a.next+3<=st.next/\jb σ O s ts (fun q=>A q∨∃j:Nat,j<k/\q=bt p j) st.get st_a.next/\((lH (ew s ts) (bt p k) t=[]/\env 6=.bI)∨∃o:Id,env 6=.own o 0 (lH (ew s ts) (bt p k) t).length/\st.get o=some ⟨true,1,(lH (ew s ts) (bt p k) t).map aU⟩/\0<(lH (ew s ts) (bt p k) t).length/\st_a.next+3<=o.bj/\o.bj<st.next))) (s.aC.ai.length) ⟨0,ah,ah,sl (tw @a8 (tw @ag0 (tw @a0 (tw @a3 @ae.eq_1)))),sl (tw @a8 (tw @ag0 (tw @a0 (tw @a3 @ae.eq_1)))),sl (tw @a8 (tw @ag0 (tw @a0 (tw @a3 @ae.eq_1)))),⟨aT,ak.frame (Nat.le_refl _) ha.ov (Nat.le_refl _) (fun x hx=>(by
   have:=db hx
   simp only[go_sem, ↓reduceIte,Nat.reduceEqDiff,Nat.reduceAdd,Nat.reduceSub,Nat.reduceLeDiff,reduceCtorEq,this])),.inl ⟨rfl,sd @Nat.zero_add⟩⟩⟩ ?_
  rintro n_b env_b st_b ⟨t,rfl,ble,b21,bg0,bg1,bI0⟩ eI
  have b0:=eI 0 (by kernel_rfl);have b3:=eI 3 (by kernel_rfl);have b5:=eI 5 (by kernel_rfl);have b8:=eI 8 (by kernel_rfl);have Ku:=eI 20 (by kernel_rfl)
  simp only[go_sem, ↓reduceIte,Nat.reduceEqDiff,Nat.reduceAdd,Nat.reduceSub,Nat.reduceLeDiff,reduceCtorEq,a8,ag0,a0,a3,ae]at b0 b3 b5 b8 Ku
  clear eI
  obtain⟨bn,bk,b6⟩:=bI0
  have Ug:CK st_b.get st_b.next c T O s ts:=(bk.RJ h hc hT).frame ah rfl rfl
  obtain⟨b2,h2⟩:=Ug.row
  have v2:=db Ug.cv
  have vt:=db (i:=⟨151000000,σ.next⟩) (n:=st_b.next) aT
  have vq:=db (i:=⟨151004003,st_a.next+1+1⟩) (n:=st_b.next) aT
  by_cases ht:(t:Int)<(s.aC.ai.length:Int)
  ·have eZ:∀{e:Env} {gg:Rows} {nx:Nat},(e 21=.int .i64 (IntKind.i64.wrap ((t:Int)+1)))->(gg ⟨151000000,σ.next⟩=some ⟨true,2,[ae p]⟩)->(gg ⟨151004003,st_a.next+1+1⟩=some ⟨true,2,[ae (bt p k)]⟩)->(st_a.next+3<=nx/\jb σ O s ts (fun q=>A q∨∃j:Nat,j<k/\q=bt p j) gg st_a.next/\((lH (ew s ts) (bt p k) (t+1)=[]/\e 6=.bI)∨∃o:Id,e 6=.own o 0 (lH (ew s ts) (bt p k) (t+1)).length/\gg o=some ⟨true,1,(lH (ew s ts) (bt p k) (t+1)).map aU⟩/\0<(lH (ew s ts) (bt p k) (t+1)).length/\st_a.next+3<=o.bj/\o.bj<nx))->∃m0,m0<(s.aC.ai.length)-t/\∃t:Nat,m0=(s.aC.ai.length)-t/\t<=(s.aC.ai.length)/\e 21=.int .i64 (t:Int)/\gg ⟨151000000,σ.next⟩=some ⟨true,2,[ae p]⟩/\gg ⟨151004003,st_a.next+1+1⟩=some ⟨true,2,[ae (bt p k)]⟩/\(st_a.next+3<=nx/\jb σ O s ts (fun q=>A q∨∃j:Nat,j<k/\q=bt p j) gg st_a.next/\((lH (ew s ts) (bt p k) t=[]/\e 6=.bI)∨∃o:Id,e 6=.own o 0 (lH (ew s ts) (bt p k) t).length/\gg o=some ⟨true,1,(lH (ew s ts) (bt p k) t).map aU⟩/\0<(lH (ew s ts) (bt p k) t).length/\st_a.next+3<=o.bj/\o.bj<nx)):=fun x1 x2 x3 x4=>⟨_,ah,t+1,rfl,ah,(by rw[x1,ay ah]),x2,x3,x4⟩
   have V5:t<s.aC.ai.length:=ah
   have E5:=sY (ew s ts) (bt p k) t
   have ly:lH (ew s ts) (bt p k) (t+1)=if ew s ts (bt p k) t=true then lH (ew s ts) (bt p k) t++[(t:Int)]else lH (ew s ts) (bt p k) t:=rfl
   generalize lH (ew s ts) (bt p k) t=L at b6 E5 ly
   (try((repeat(revert hN;revert N;apply Pn.out));refine wk (tw @b21 (tw @bg0 (tw @bg1 (tw @b0 (tw @b3 (tw @b5 (tw @b8 (tw @Ku (tw @ht (tw @h2 (tw @v2 (tw @vt (tw @vq @ae.eq_1))))))))))))) ?_;(repeat(refine Pn.mk ?_;intro N hN))))
   refine .inl ⟨_,RU (Ug.frame aT (sd @v2) (by(have:=db Ug.tv;simp only[go_sem, ↓reduceIte,Nat.reduceEqDiff,Nat.reduceAdd,Nat.reduceSub,Nat.reduceLeDiff,reduceCtorEq,this]))) hS hF (bt p k) t (EN V5),?_⟩
   refine hN _ _ ?_
   clear hN N
   cases hb:ew s ts (bt p k) t
   ·rw[hb,if_neg (by simp)]at ly
    (try((repeat(revert hN;revert N;apply Pn.out));refine wk (tw @b21 (tw @bg0 (tw @bg1 (tw @b0 (tw @b3 (tw @b5 (tw @b8 (tw @Ku @hb)))))))) ?_;(repeat(refine Pn.mk ?_;intro N hN))))
    refine eZ ?_ ?_ ?_ (by(try dsimp only);exact⟨ah,bk.frame (Nat.le_refl _) ha.ov (Nat.le_refl _) (fun x hx=>by
      have h1:=db (i:=x) (n:=st_b.next) ah
      simp only[go_sem, ↓reduceIte,Nat.reduceEqDiff,Nat.reduceAdd,Nat.reduceSub,Nat.reduceLeDiff,reduceCtorEq,h1]),by
     rw[ly]
     rcases b6 with⟨hL,h⟩|⟨o,h1,h2,h3,h4,h5⟩
     ·exact .inl ⟨hL,sd @h⟩
     ·have h8:=db h5
      exact .inr ⟨o,sd @h1,sd (tw @h2 @h8),h3,h4,ah⟩⟩)
    all_goals simp only[go_sem, ↓reduceIte,Nat.reduceEqDiff,Nat.reduceAdd,Nat.reduceSub,Nat.reduceLeDiff,reduceCtorEq,b21,bg0,bg1,b0,b3,b5,b8,Ku,ae,vt,vq]
   ·rw[hb,if_pos rfl]at ly
    have qY:(L++[(t:Int)]).length=L.length+1:=by simp
    have qw:(L++[(t:Int)]).map aU=L.map aU++[[.int .i64 t]]:=by rw[List.map_append];rfl
    rcases b6 with⟨hL,b6⟩|⟨o,b6,bo,o4,o6,o7⟩
    ·subst hL
     (try((repeat(revert hN;revert N;apply Pn.out));refine wk (tw @b21 (tw @bg0 (tw @bg1 (tw @b0 (tw @b3 (tw @b5 (tw @b8 (tw @Ku (tw @b6 @hb))))))))) ?_;(repeat(refine Pn.mk ?_;intro N hN))))
     refine eZ ?_ ?_ ?_ (by(try dsimp only);exact⟨ah,bk.frame (Nat.le_refl _) ha.ov (Nat.le_refl _) (fun x hx=>by
      have h1:=db (i:=x) (n:=st_b.next) ah
      simp only[go_sem, ↓reduceIte,Nat.reduceEqDiff,Nat.reduceAdd,Nat.reduceSub,Nat.reduceLeDiff,reduceCtorEq,h1]),.inr ⟨⟨151010003,st_b.next+1+1+1⟩,by rw[ly,qY];simp only[go_sem, ↓reduceIte,Nat.reduceEqDiff,Nat.reduceAdd,Nat.reduceSub,Nat.reduceLeDiff,reduceCtorEq]<;>rfl,by rw[ly,qw];simp only[go_sem, ↓reduceIte,Nat.reduceEqDiff,Nat.reduceAdd,Nat.reduceSub,Nat.reduceLeDiff,reduceCtorEq]<;>rfl,by rw[ly,qY];omega,aT,aT⟩⟩)
     all_goals simp only[go_sem, ↓reduceIte,Nat.reduceEqDiff,Nat.reduceAdd,Nat.reduceSub,Nat.reduceLeDiff,reduceCtorEq,b21,bg0,bg1,b0,b3,b5,b8,Ku,ae,vt,vq]
    ·have e1:L.length<=16777215:=ah
     have xT:(L.map aU).length=L.length:=by simp
     have vo:=db o7
     have vto:=bH (a:=⟨151000000,σ.next⟩) (b:=o) aT
     have vqo:=bH (a:=⟨151004003,st_a.next+1+1⟩) (b:=o) aT
     (try((repeat(revert hN;revert N;apply Pn.out));refine wk (tw @b21 (tw @bg0 (tw @bg1 (tw @b0 (tw @b3 (tw @b5 (tw @b8 (tw @Ku (tw @b6 (tw @bo (tw @hb (tw @e1 (tw @xT @vo))))))))))))) ?_;(repeat(refine Pn.mk ?_;intro N hN))))
     refine eZ ?_ ?_ ?_ (by(try dsimp only);exact⟨ah,bk.frame (Nat.le_refl _) ha.ov (Nat.le_refl _) (fun x hx=>by
      have h1:=db (i:=x) (n:=st_b.next) ah
      have h2:=bH (a:=x) (b:=o) ah
      simp only[go_sem, ↓reduceIte,Nat.reduceEqDiff,Nat.reduceAdd,Nat.reduceSub,Nat.reduceLeDiff,reduceCtorEq,h1,h2]),.inr ⟨⟨151010003,st_b.next+1+1+1⟩,by rw[ly,qY];simp only[go_sem, ↓reduceIte,Nat.reduceEqDiff,Nat.reduceAdd,Nat.reduceSub,Nat.reduceLeDiff,reduceCtorEq]<;>rfl,by rw[ly,qw];simp only[go_sem, ↓reduceIte,Nat.reduceEqDiff,Nat.reduceAdd,Nat.reduceSub,Nat.reduceLeDiff,reduceCtorEq]<;>rfl,by rw[ly,qY];omega,aT,aT⟩⟩)
     all_goals simp only[go_sem, ↓reduceIte,Nat.reduceEqDiff,Nat.reduceAdd,Nat.reduceSub,Nat.reduceLeDiff,reduceCtorEq,b21,bg0,bg1,b0,b3,b5,b8,Ku,ae,vt,vq,vto,vqo]
  ·obtain⟨es,hg,how⟩:=bk.2.2
   have vo:=db Ug.ov
   obtain⟨fi,E4,pb,I6,_,_⟩:=uM (bt p k) es
   unfold dE at pb
   unfold dG at I6
   have hq:((⟨151000000,σ.next⟩:Id)=O)=False:=(bH (a:=O) (b:=⟨151000000,σ.next⟩) (by have:=h.ov;(try dsimp only);omega)).2
   have htt:t=s.aC.ai.length:=ah
   subst htt
   have s5:lH (ew s ts) (bt p k) s.aC.ai.length=gM s ts (bt p k):=rfl
   rw[s5]at b6
   have hAk:∀q,(A q∨∃j:Nat,j<k+1/\q=bt p j)->(A q∨∃j:Nat,j<k/\q=bt p j)∨q=bt p k:=fun q hq=>by
    rcases hq with hq|⟨j,hj,hq⟩
    ·exact .inl (.inl hq)
    ·rcases Nat.lt_or_ge j k with h|h
     ·exact .inl (.inr ⟨j,h,hq⟩)
     ·exact .inr (by rw[hq,show j=k by omega])
   rcases b6 with⟨hL,b6⟩|⟨o,b6,bo,o4,o6,o7⟩
   ·have d0:decide ((0:Int)<((0:Nat):Int))=false:=rfl
    (try((repeat(revert hN;revert N;apply Pn.out));refine wk (tw @b21 (tw @bg0 (tw @bg1 (tw @b0 (tw @b3 (tw @b5 (tw @b8 (tw @Ku (tw @b6 (tw @ht (tw @h2 (tw @v2 (tw @vt (tw @vq (tw @vo (tw @hg (tw @E4 (tw @I6 (tw @ae.eq_1 @d0))))))))))))))))))) ?_;(repeat(refine Pn.mk ?_;intro N hN))))
    refine cq ?_ ?_ (by(try dsimp only);exact⟨ah,bk.cut hg how ah (fun x hx HQ=>by
     have h1:=db (i:=x) (n:=st_b.next) ah
     have h2:(x=O)=False:=eq_false HQ
     simp only[go_sem, ↓reduceIte,Nat.reduceEqDiff,Nat.reduceAdd,Nat.reduceSub,Nat.reduceLeDiff,reduceCtorEq,h1,h2]) hL (sl @I6) hAk⟩)
    all_goals simp only[go_sem, ↓reduceIte,Nat.reduceEqDiff,Nat.reduceAdd,Nat.reduceSub,Nat.reduceLeDiff,reduceCtorEq,a8,ag0,a0,a3,b21,bg0,bg1,b0,b3,b5,b8,Ku,ae,vt,vo,hq]
   ·have iD:gM s ts (bt p k)≠[]:=fun e=>by rw[e]at o4;cases o4
    have d1:decide ((0:Int)<((gM s ts (bt p k)).length:Int))=true:=decide_eq_true ah
    have E9:=pb (.own o 0 (gM s ts (bt p k)).length)
    have v8:=db o7
    have oO:(o=O)=False:=eq_false (by
     rintro rfl
     rw[hg]at bo
     injection bo with bo
     injection bo with _ bo _
     exact sk bo)
    (try((repeat(revert hN;revert N;apply Pn.out));refine wk (tw @b21 (tw @bg0 (tw @bg1 (tw @b0 (tw @b3 (tw @b5 (tw @b8 (tw @Ku (tw @b6 (tw @ht (tw @h2 (tw @v2 (tw @vt (tw @vq (tw @vo (tw @hg (tw @E4 (tw @E9 (tw @ae.eq_1 @d1))))))))))))))))))) ?_;(repeat(refine Pn.mk ?_;intro N hN))))
    refine cq ?_ ?_ (by(try dsimp only);exact⟨ah,bk.put hg how ah (fun x hx HQ=>by
     have h1:=db (i:=x) (n:=st_b.next) ah
     have h2:(x=O)=False:=eq_false HQ
     simp only[go_sem, ↓reduceIte,Nat.reduceEqDiff,Nat.reduceAdd,Nat.reduceSub,Nat.reduceLeDiff,reduceCtorEq,h1,h2]) (o:=o) iD ah (sd (tw @oO (tw @v8 @bo))) (sl @E9) hAk⟩)
    all_goals simp only[go_sem, ↓reduceIte,Nat.reduceEqDiff,Nat.reduceAdd,Nat.reduceSub,Nat.reduceLeDiff,reduceCtorEq,a8,ag0,a0,a3,b21,bg0,bg1,b0,b3,b5,b8,Ku,ae,vt,vo,hq]
 ·have Zt:k=4:=ah
  subst Zt
  (try((repeat(revert hN;revert N;apply Pn.out));refine wk (tw @a8 (tw @ag0 (tw @a0 (tw @a3 @hk)))) ?_;(repeat(refine Pn.mk ?_;intro N hN))))
  exact eS (.inr rfl) (vs:=[]) rfl ⟨rfl,ak.frame (Nat.le_refl _) ha.ov aT (fun x hx=>rfl)⟩
structure uh (g:Rows) (n:Nat) (c T O:Id) (s:aE) (ts:List aa):Prop where
 o:me g n c T O s ts
 op:∃es:List En,g O=some ⟨true,mP.lq,es.map o8⟩/\xj g n es (gM s ts) (fun _=>True)
theorem uh.frame {g g':Rows} {n n':Nat} {c T O:Id} {s:aE} {ts:List aa} (h:uh g n c T O s ts) (hn:n<=n') (hf:∀x:Id,x.bj<n->g' x=g x):uh g' n' c T O s ts:=
 ⟨h.o.frame hn hf,by
  obtain⟨es,h1,h2⟩:=h.op
  exact⟨es,(hf _ h.o.ov).trans h1,h2.frame hn fun x hx _=>hf x hx⟩⟩
theorem me.Q6 {σ:aw} {g:Rows} {n:Nat} {c T O:Id} {s:aE} {ts:List aa} {A:aq->Prop} (h:me σ.get σ.next c T O s ts) (k:jb σ O s ts A g n):me g n c T O s ts:=h.look k.ow
theorem Lu {s:aE} (hT:1<=s.az) {ts:List aa} {q:aq} (h:∀t∈ts,∀k:Nat,k<4->q≠bt t.aJ k):gM s ts q=[]:=by
 unfold gM
 refine Bn (fun t=>?_) _
 cases hb:ew s ts q t
 ·rfl
 ·exfalso
  simp[ew]at hb
  obtain⟨⟨h1,h2⟩,h3⟩:=hb
  obtain⟨k,hk,h4⟩:=bind_some (s:=s.aC) (F:=fU ts) (p:=q) (t:=t) 4 (by have:oH s.aC (fU ts) q t=dm s.aC (fU ts) q t 4:=rfl;omega)
  have h5:0<=eG ts (bt q k):=by
   unfold fU at h4
   split at h4
   ·assumption
   ·omega
  obtain⟨h6,h7⟩:=lz h5
  have N3:(ko k).toNat<4/\((ko k).toNat:Int)=ko k:=by
   have:k=0∨k=1∨k=2∨k=3:=ah
   rcases this with rfl|rfl|rfl|rfl<;>decide
  refine h _ (gO h6) (ko k).toNat N3.1 ?_
  rw[h7,N3.2,uW q k hk]
theorem EA {l:List aa} {t:aa} (h:t∈l):∃j,j<l.length/\t=aL l j:=by
 obtain⟨j,hj,rfl⟩:=List.getElem_of_mem h
 exact⟨j,hj,(fa hj).symm⟩
def Fq (s:aE) (l:List aa) (j:Nat) (q:aq):Prop:=gM s l q=[]/\(∀i:Nat,i<l.length->∀k:Nat,k<4->q≠bt (aL l i).aJ k)∨∃i:Nat,i<j/\∃k:Nat,k<4/\q=bt (aL l i).aJ k
theorem NB {s:aE} (hT:1<=s.az) (l:List aa) (q:aq):Fq s l l.length q:=by
 by_cases h:∃i:Nat,i<l.length/\∃k:Nat,k<4/\q=bt (aL l i).aJ k
 ·exact .inr h
 ·have h2:∀i:Nat,i<l.length->∀k:Nat,k<4->q≠bt (aL l i).aJ k:=fun i hi k hk e=>h ⟨i,hi,k,hk,e⟩
  exact .inl ⟨Lu hT fun t ht k hk=>by
   obtain⟨j,hj,rfl⟩:=EA ht
   exact h2 j hj k hk,h2⟩
def Ye (σ:aw) (s:aE) (ts:List aa) (r:AV) (σ':aw):Prop:=
 ∃c T O:Id,r=.ptr c 0 0/\uh σ'.get σ'.next c T O s ts/\σ.next<=c.bj/\σ.next<=T.bj/\σ.next<=O.bj/\σ.next<=σ'.next/\∀x:Id,x.bj<σ.next->σ'.get x=σ.get x
theorem BY (s:aE) (hS:iG s.aC) (Y8:1<=s.az) (l:List aa) (hA:jZ s.aC l) (σ:aw):Call Tryz.prog 83 [.agg (aA s),.agg [.sl (l.map ab)]] σ (Ye σ s l):=by
 refine eA eF rfl fun kP=>?_
 clear kP
 have DH:=hA.1.zm
 (try((repeat(revert hN;revert N;apply Pn.out));refine wk @aA.eq_1 ?_;(repeat(refine Pn.mk ?_;intro N hN))))
 refine aQ (fun n env st=>∃k:Nat,n=(l.length)-k/\k<=(l.length)/\env 18=.int .i64 (k:Int)/\st.get ⟨83001004,σ.next+1⟩=some ⟨true,6,[[.sl (s.aC.aB.map cm),.sl (s.aC.ai.map bR),.sl (s.bY.ai.map ab),.int .i64 s.az,.map ⟨83001001,σ.next+1⟩ mP,.map ⟨83001002,σ.next+1⟩ mP]]⟩/\st.get ⟨83001001,σ.next+1⟩=some ⟨true,mP.lq,(l.take k).map ab⟩/\st.get ⟨83001002,σ.next+1⟩=some ⟨true,mP.lq,[]⟩/\st.get ⟨83000001,σ.next⟩=some ⟨true,1,[[.sl (l.map ab)]]⟩/\(σ.next+3<=st.next/\∀x:Id,x.bj<σ.next->st.get x=σ.get x)) (l.length) ⟨0,ah,ah,sl @Nat.zero_add,sl @Nat.zero_add,sl @Nat.zero_add,sl @Nat.zero_add,sl @Nat.zero_add,⟨aT,fun x hx=>by
  have:=db hx
  simp only[go_sem, ↓reduceIte,Nat.reduceEqDiff,Nat.reduceAdd,Nat.reduceSub,Nat.reduceLeDiff,reduceCtorEq,this]⟩⟩ ?_
 rintro n_a env_a st_a ⟨k,rfl,ale,a18,ag0,ag1,ag2,ag3,ke⟩ dv
 have a3:=dv 3 (by kernel_rfl);have a5:=dv 5 (by kernel_rfl);have T7:=dv 16 (by kernel_rfl);have a17:=dv 17 (by kernel_rfl)
 simp only[go_sem, ↓reduceIte,Nat.reduceEqDiff,Nat.reduceAdd,Nat.reduceSub,Nat.reduceLeDiff,reduceCtorEq]at a3 a5 T7 a17
 clear dv
 obtain⟨an,dv⟩:=ke
 have v1:=db (i:=⟨83001004,σ.next+1⟩) (n:=st_a.next) aT
 have v2:=db (i:=⟨83001001,σ.next+1⟩) (n:=st_a.next) aT
 have v3:=db (i:=⟨83001002,σ.next+1⟩) (n:=st_a.next) aT
 have v4:=db (i:=⟨83000001,σ.next⟩) (n:=st_a.next) aT
 by_cases hk:(k:Int)<(l.length:Int)
 ·have cq:∀{e:Env} {gg:Rows} {nx:Nat},(e 18=.int .i64 (IntKind.i64.wrap ((k:Int)+1)))->(gg ⟨83001004,σ.next+1⟩=some ⟨true,6,[[.sl (s.aC.aB.map cm),.sl (s.aC.ai.map bR),.sl (s.bY.ai.map ab),.int .i64 s.az,.map ⟨83001001,σ.next+1⟩ mP,.map ⟨83001002,σ.next+1⟩ mP]]⟩)->(gg ⟨83001001,σ.next+1⟩=some ⟨true,mP.lq,(l.take (k+1)).map ab⟩)->(gg ⟨83001002,σ.next+1⟩=some ⟨true,mP.lq,[]⟩)->(gg ⟨83000001,σ.next⟩=some ⟨true,1,[[.sl (l.map ab)]]⟩)->(σ.next+3<=nx/\∀x:Id,x.bj<σ.next->gg x=σ.get x)->∃m0,m0<(l.length)-k/\∃k:Nat,m0=(l.length)-k/\k<=(l.length)/\e 18=.int .i64 (k:Int)/\gg ⟨83001004,σ.next+1⟩=some ⟨true,6,[[.sl (s.aC.aB.map cm),.sl (s.aC.ai.map bR),.sl (s.bY.ai.map ab),.int .i64 s.az,.map ⟨83001001,σ.next+1⟩ mP,.map ⟨83001002,σ.next+1⟩ mP]]⟩/\gg ⟨83001001,σ.next+1⟩=some ⟨true,mP.lq,(l.take k).map ab⟩/\gg ⟨83001002,σ.next+1⟩=some ⟨true,mP.lq,[]⟩/\gg ⟨83000001,σ.next⟩=some ⟨true,1,[[.sl (l.map ab)]]⟩/\(σ.next+3<=nx/\∀x:Id,x.bj<σ.next->gg x=σ.get x):=fun x1 x2 x3 x4 x5 x6=>⟨_,ah,k+1,rfl,ah,(by rw[x1,ay ah]),x2,x3,x4,x5,x6⟩
  have fy:k<l.length:=ah
  have hg:=fF fy
  have hm:=r8 (Nq hA.1.P8 fy)
  have qx:=Qf fy
  (try((repeat(revert hN;revert N;apply Pn.out));refine wk (tw @a18 (tw @ag0 (tw @ag1 (tw @ag2 (tw @ag3 (tw @a3 (tw @a5 (tw @T7 (tw @a17 (tw @hk (tw @hg (tw @hm (tw @v1 (tw @v2 (tw @v3 (tw @v4 @ab.eq_1)))))))))))))))) ?_;(repeat(refine Pn.mk ?_;intro N hN))))
  refine cq ?_ ?_ ?_ ?_ ?_ (by(try dsimp only);exact⟨ah,fun x hx=>by
   have h1:=db (i:=x) (n:=st_a.next) ah
   have h2:=bH (a:=x) (b:=⟨83001001,σ.next+1⟩) aT
   have h3:=dv x hx
   simp only[go_sem, ↓reduceIte,Nat.reduceEqDiff,Nat.reduceAdd,Nat.reduceSub,Nat.reduceLeDiff,reduceCtorEq,h1,h2,h3]⟩)
  all_goals simp only[go_sem, ↓reduceIte,Nat.reduceEqDiff,Nat.reduceAdd,Nat.reduceSub,Nat.reduceLeDiff,reduceCtorEq,a18,ag0,ag1,ag2,ag3,a3,a5,T7,a17,ab,v1,v2,v3,v4,qx]
 ·have lj:k=l.length:=ah
  subst lj
  have nj:l.take l.length=l:=List.take_length
  (try((repeat(revert hN;revert N;apply Pn.out));refine wk (tw @a18 (tw @ag0 (tw @ag1 (tw @ag2 (tw @ag3 (tw @a3 (tw @a5 (tw @T7 (tw @a17 (tw @hk (tw @v1 (tw @v2 (tw @v3 @v4))))))))))))) ?_;(repeat(refine Pn.mk ?_;intro N hN))))
  refine aQ (fun n env st=>∃j:Nat,n=(l.length)-j/\j<=(l.length)/\env 34=.int .i64 (j:Int)/\(σ.next+3<=st.next/\me st.get st.next ⟨83001004,σ.next+1⟩ ⟨83001001,σ.next+1⟩ ⟨83001002,σ.next+1⟩ s l/\(∀x:Id,x.bj<σ.next->st.get x=σ.get x)/\∃es:List En,st.get ⟨83001002,σ.next+1⟩=some ⟨true,mP.lq,es.map o8⟩/\xj st.get st.next es (gM s l) (Fq s l j))) (l.length) ⟨0,ah,ah,sl (tw @a18 (tw @ag0 (tw @ag1 (tw @ag2 (tw @ag3 (tw @a3 (tw @a5 (tw @T7 @a17)))))))),by(try dsimp only);exact⟨ah,⟨sd @ag0,sd (tw @ag1 @nj),⟨[],sd @ag2,by intro r hr;cases hr⟩,aT,aT,aT,(by intro e;injection e with e1 e2;revert e1;decide),(by intro e;injection e with e1 e2;revert e1;decide),(by intro e;injection e with e1 e2;revert e1;decide)⟩,fun x hx=>by
   have h3:=dv x hx
   simp only[go_sem, ↓reduceIte,Nat.reduceEqDiff,Nat.reduceAdd,Nat.reduceSub,Nat.reduceLeDiff,reduceCtorEq,h3],[],sl @ag2,List.nodup_nil,fun q hq=>.inl ⟨by
    rcases hq with hq|⟨i,hi,_⟩
    ·exact hq.1
    ·exact absurd hi (Nat.not_lt_zero i),fun e he=>by cases he⟩⟩⟩ ?_
  rintro n_b env_b st_b ⟨j,rfl,ble,b34,bI0⟩ eI
  have b5:=eI 5 (by kernel_rfl);have nJ:=eI 32 (by kernel_rfl);have nR:=eI 33 (by kernel_rfl)
  simp only[go_sem, ↓reduceIte,Nat.reduceEqDiff,Nat.reduceAdd,Nat.reduceSub,Nat.reduceLeDiff,reduceCtorEq,a18,ag0,ag1,ag2,ag3,a3,a5,T7,a17]at b5 nJ nR
  clear eI
  obtain⟨bn,bC,eI,es,bO,bS⟩:=bI0
  by_cases hj:(j:Int)<(l.length:Int)
  ·have eZ:∀{e:Env} {gg:Rows} {nx:Nat},(e 34=.int .i64 (IntKind.i64.wrap ((j:Int)+1)))->(σ.next+3<=nx/\me gg nx ⟨83001004,σ.next+1⟩ ⟨83001001,σ.next+1⟩ ⟨83001002,σ.next+1⟩ s l/\(∀x:Id,x.bj<σ.next->gg x=σ.get x)/\∃es:List En,gg ⟨83001002,σ.next+1⟩=some ⟨true,mP.lq,es.map o8⟩/\xj gg nx es (gM s l) (Fq s l (j+1)))->∃m0,m0<(l.length)-j/\∃j:Nat,m0=(l.length)-j/\j<=(l.length)/\e 34=.int .i64 (j:Int)/\(σ.next+3<=nx/\me gg nx ⟨83001004,σ.next+1⟩ ⟨83001001,σ.next+1⟩ ⟨83001002,σ.next+1⟩ s l/\(∀x:Id,x.bj<σ.next->gg x=σ.get x)/\∃es:List En,gg ⟨83001002,σ.next+1⟩=some ⟨true,mP.lq,es.map o8⟩/\xj gg nx es (gM s l) (Fq s l j)):=fun x1 x2=>⟨_,ah,j+1,rfl,ah,(by rw[x1,ay ah]),x2⟩
   have ga:j<l.length:=ah
   have hg:=fF ga
   have QV:=sf (hA.1.pt ga)
   (try((repeat(revert hN;revert N;apply Pn.out));refine wk (tw @b34 (tw @b5 (tw @nJ (tw @nR (tw @hj (tw @hg @ab.eq_1)))))) ?_;(repeat(refine Pn.mk ?_;intro N hN))))
   have hG:∀x:Id,x.bj<st_b.next->(bE (bE st_b.get ⟨83009002,st_b.next+1⟩ ⟨true,3,[[.int .i64 0,.int .i64 0,.int .i64 0]]⟩) ⟨83009002,st_b.next+1⟩ ⟨true,3,[[.int .i64 (aL l j).aJ.eE,.int .i64 (aL l j).aJ.ez,.int .i64 (aL l j).br]]⟩) x=st_b.get x:=fun x hx=>by
    have h1:=db hx
    simp only[go_sem, ↓reduceIte,Nat.reduceEqDiff,Nat.reduceAdd,Nat.reduceSub,Nat.reduceLeDiff,reduceCtorEq,h1]
   have Xh:me (bE (bE st_b.get ⟨83009002,st_b.next+1⟩ ⟨true,3,[[.int .i64 0,.int .i64 0,.int .i64 0]]⟩) ⟨83009002,st_b.next+1⟩ ⟨true,3,[[.int .i64 (aL l j).aJ.eE,.int .i64 (aL l j).aJ.ez,.int .i64 (aL l j).br]]⟩) (st_b.next+1+1+1) ⟨83001004,σ.next+1⟩ ⟨83001001,σ.next+1⟩ ⟨83001002,σ.next+1⟩ s l:=bC.frame ah hG
   refine .inr (aI _ _ _ _ _ (fun r σ1 hq=>?_) (th (σ:=⟨bE (bE st_b.get ⟨83009002,st_b.next+1⟩ ⟨true,3,[[.int .i64 0,.int .i64 0,.int .i64 0]]⟩) ⟨83009002,st_b.next+1⟩ ⟨true,3,[[.int .i64 (aL l j).aJ.eE,.int .i64 (aL l j).aJ.ez,.int .i64 (aL l j).br]]⟩,st_b.next+1+1+1⟩) Xh.RJ Xh.cO Xh.TO (Fq s l j) ⟨es,(hG _ aT).trans bO,bS.frame aT fun x hx _=>hG x hx⟩ hS (iG.K0 hA) (aL l j).aJ QV.1 QV.2))
   obtain⟨g1,x1⟩:=σ1
   obtain⟨rfl,hL⟩:=hq
   (try dsimp only at hL)
   have YN:=Xh.Q6 hL
   have hLn:=hL.1
   have hLf:=hL.2.1
   obtain⟨YD,Vk,LF⟩:=hL.2.2
   (try dsimp only at hLn hLf)
   have hAj:∀q,Fq s l (j+1) q->Fq s l j q∨∃k:Nat,k<4/\q=bt (aL l j).aJ k:=fun q hq=>by
    rcases hq with hq|⟨i,hi,hq⟩
    ·exact .inl (.inl hq)
    ·rcases Nat.lt_or_ge i j with h|h
     ·exact .inl (.inr ⟨i,h,hq⟩)
     ·exact .inr (by rw[show i=j by omega]at hq;exact hq)
   refine hN _ _ ?_
   clear hN N
   (try((repeat(revert hN;revert N;apply Pn.out));refine wk (tw @b34 (tw @b5 (tw @nJ @nR))) ?_;(repeat(refine Pn.mk ?_;intro N hN))))
   exact eZ (sd (tw @b34 (tw @b5 (tw @nJ @nR)))) (by(try dsimp only);exact⟨ah,YN.frame ah (fun x hx=>rfl),fun x hx=>by
    have h1:=db (i:=x) (n:=st_b.next) ah
    have h2:=hLf x ah (fun e=>by rw[e]at hx;(try dsimp only at hx);omega)
    have h3:=eI x hx
    simp only[h2]
    simp only[go_sem, ↓reduceIte,Nat.reduceEqDiff,Nat.reduceAdd,Nat.reduceSub,Nat.reduceLeDiff,reduceCtorEq,h1,h3],YD,Vk,(LF.frame ah fun x hx _=>rfl).mono hAj⟩)
  ·have gY:j=l.length:=ah
   subst gY
   (try((repeat(revert hN;revert N;apply Pn.out));refine wk (tw @b34 (tw @b5 (tw @nJ (tw @nR @hj)))) ?_;(repeat(refine Pn.mk ?_;intro N hN))))
   exact eS (.inl rfl) (vs:=[.ptr ⟨83001004,σ.next+1⟩ 0 0]) (sd @Nat.zero_add) ⟨_,_,_,rfl,⟨bC.frame aT (fun x hx=>rfl),es,bO,(bS.frame aT fun x hx _=>rfl).mono fun q _=>NB Y8 l q⟩,aT,aT,aT,aT,eI⟩
theorem IV {s:aE} {ts:List aa} {p q:aq} {t:Int} (h0:eG ts p<0) (hqp:q≠p) (hn:∀k:Nat,k<4->q≠bt p k):gM s (ts++[⟨p,t⟩]) q=gM s ts q:=by
 unfold gM
 have k9:=kF.1 h0
 have tW:∀x,x≠p->fU (ts++[⟨p,t⟩]) x=fU ts x:=fun x hx=>by
  rw[sK (q:=⟨p,t⟩) x k9]
  exact if_neg fun e=>hx e.symm
 have dC:∀k:Nat,k<4->bt q k≠p:=fun k hk e=>by
  have N3:(ko k).toNat<4/\((ko k).toNat:Int)=ko k:=by
   have:k=0∨k=1∨k=2∨k=3:=ah
   rcases this with rfl|rfl|rfl|rfl<;>decide
  refine hn _ N3.1 ?_
  rw[N3.2,<-e,uW q k hk]
 have hb:∀(u:Int) (d:Nat),d<=4->dm s.aC (fU (ts++[⟨p,t⟩])) q u d=dm s.aC (fU ts) q u d:=fun u d=>by
  induction d with
  |zero=>intro _;rfl
  |succ d ih=>
   intro hd
   rw[dm,dm,ih ah,tW _ (dC d ah)]
 refine uz (fun k=>?_) _
 unfold ew
 rw[tW q hqp,show oH s.aC (fU (ts++[⟨p,t⟩])) q k=oH s.aC (fU ts) q k from hb k 4 (Nat.le_refl _)]
theorem IW {s:aE} {ts:List aa} {p:aq} {t:Int} (h0:eG ts p<0) (ht:0<=t):gM s (ts++[⟨p,t⟩]) p=[]:=by
 unfold gM
 refine Bn (fun k=>?_) _
 have:¬fU (ts++[⟨p,t⟩]) p<0:=by
  rw[sK (q:=⟨p,t⟩) p (kF.1 h0),if_pos rfl]
  show ¬t<0
  omega
 simp[ew,this]
theorem Wt {σ:aw} {c T O:Id} {s:aE} {ts:List aa} (h:uh σ.get σ.next c T O s ts) (hS:iG s.aC) (hF:∀q,0<=fU ts q->eH s.aC (fU ts q)=true) (p:aq) (hp:zd p=true) (t:Int) (ht:eH s.aC t=true) (h0:eG ts p<0):
  Call Tryz.prog 100 [.ptr c 0 0,.agg (ae p),.int .i64 t] σ (fun r σ'=>r=.gJ []/\uh σ'.get σ'.next c T O s (ts++[⟨p,t⟩])/\σ.next<=σ'.next/\∀x:Id,x.bj<σ.next->x≠T->x≠O->σ'.get x=σ.get x):=by
 refine eA eF rfl fun kP=>?_
 clear kP
 obtain⟨hx,hy⟩:=sf hp
 have k9:=kF.1 h0
 have ht0:0<=t:=(dB ht).1
 have Ve:∀q,0<=fU (ts++[⟨p,t⟩]) q->eH s.aC (fU (ts++[⟨p,t⟩]) q)=true:=fun q hq=>by
  rw[sK q k9]at hq ⊢
  split at hq
  ·rename_i he;rw[if_pos he];exact ht
  ·rename_i he;rw[if_neg he];exact hF q hq
 obtain⟨es,ho,hw⟩:=h.op
 obtain⟨fi,E4,_,I6,_,_⟩:=uM p es
 unfold dG at I6
 have h1:=h.o.row
 have h2:=h.o.tl
 have v1:=db h.o.cv
 have v2:=db h.o.tv
 have v3:=db h.o.ov
 have hm:=r8 h0
 have cT:=eq_false h.o.cT
 have cO:=eq_false h.o.cO
 have TO:=eq_false h.o.TO
 have Tc:=eq_false (fun e:T=c=>h.o.cT e.symm)
 have Oc:=eq_false (fun e:O=c=>h.o.cO e.symm)
 have OT:=eq_false (fun e:O=T=>h.o.TO e.symm)
 (try((repeat(revert hN;revert N;apply Pn.out));refine wk (tw @h1 (tw @h2 (tw @ho (tw @v1 (tw @v2 (tw @v3 (tw @hm (tw @E4 (tw @I6 (tw @cT (tw @cO (tw @TO (tw @Tc (tw @Oc (tw @OT @ae.eq_1))))))))))))))) ?_;(repeat(refine Pn.mk ?_;intro N hN))))
 have hG:∀x:Id,x.bj<σ.next->x≠T->x≠O->(bE (bE (bE σ.get ⟨100000000,σ.next⟩ ⟨true,2,[[.int .i64 p.eE,.int .i64 p.ez]]⟩) T ⟨true,mP.lq,ts.map ab++[[.int .i64 p.eE,.int .i64 p.ez,.int .i64 t]]⟩) O ⟨true,mP.lq,(oZ es p).map o8⟩) x=σ.get x:=fun x SZ hxT HQ=>by
  have a1:=eq_false hxT
  have a2:=eq_false HQ
  have a3:=db SZ
  simp only[go_sem, ↓reduceIte,Nat.reduceEqDiff,Nat.reduceAdd,Nat.reduceSub,Nat.reduceLeDiff,reduceCtorEq,a1,a2,a3]
 have fm:∀x:Id,(∃k r,σ.get x=some ⟨k,1,r⟩)->x≠T/\x≠O:=fun x hr=>by
  obtain⟨k,r,hr⟩:=hr
  constructor
  ·rintro rfl
   rw[h2]at hr
   injection hr with hr
   injection hr with _ hr _
   exact sk hr
  ·rintro rfl
   rw[ho]at hr
   injection hr with hr
   injection hr with _ hr _
   exact sk hr
 obtain⟨G,Xi⟩:∃G,G=bE (bE (bE σ.get ⟨100000000,σ.next⟩ ⟨true,2,[[.int .i64 p.eE,.int .i64 p.ez]]⟩) T ⟨true,mP.lq,ts.map ab++[[.int .i64 p.eE,.int .i64 p.ez,.int .i64 t]]⟩) O ⟨true,mP.lq,(oZ es p).map o8⟩:=⟨_,rfl⟩
 have hGT:G T=some ⟨true,mP.lq,ts.map ab++[[.int .i64 p.eE,.int .i64 p.ez,.int .i64 t]]⟩:=by rw[Xi];simp only[go_sem, ↓reduceIte,Nat.reduceEqDiff,Nat.reduceAdd,Nat.reduceSub,Nat.reduceLeDiff,reduceCtorEq,TO]
 have hGO:G O=some ⟨true,mP.lq,(oZ es p).map o8⟩:=by rw[Xi];simp only[go_sem, ↓reduceIte,Nat.reduceEqDiff,Nat.reduceAdd,Nat.reduceSub,Nat.reduceLeDiff,reduceCtorEq]
 rw[<-Xi]at hG ⊢
 clear Xi
 have hC:me G (σ.next+1+1+1+1) c T O s (ts++[⟨p,t⟩]):=
  ⟨(hG c h.o.cv h.o.cT h.o.cO).trans h1,by rw[hGT,List.map_append];rfl,⟨_,hGO,fun r hr=>by
   obtain⟨e,_,rfl⟩:=List.mem_map.1 hr
   exact⟨_,_,_,rfl⟩⟩,by have:=h.o.cv;omega,by have:=h.o.tv;omega,by have:=h.o.ov;omega,h.o.cT,h.o.cO,h.o.TO⟩
 have hE:xj G (σ.next+1+1+1+1) (oZ es p) (gM s (ts++[⟨p,t⟩])) (fun q=>¬∃k:Nat,k<4/\q=bt p k):=by
  have e1:xj G (σ.next+1+1+1+1) es (gM s ts) (fun _=>True):=hw.frame ah fun x hx hr=>hG x hx (fm x hr).1 (fm x hr).2
  refine⟨xE _ e1.nodup,fun q hq=>?_⟩
  have hqk:∀k:Nat,k<4->q≠bt p k:=fun k hk e=>hq ⟨k,hk,e⟩
  by_cases e:q=p
  ·subst e
   exact .inl ⟨IW h0 ht0,Bh e1.nodup⟩
  ·rw[IV h0 e hqk]
   rcases e1.at_ q trivial with⟨a1,a2⟩|⟨a1,o',a2,a3⟩
   ·exact .inl ⟨a1,fun x hx=>a2 x (sU.subset hx)⟩
   ·exact .inr ⟨a1,o',(yd e).2 a2,a3⟩
 refine .inr (aI _ _ _ _ _ (fun r σ1 hq=>?_) (th (σ:=⟨G,σ.next+1+1+1+1⟩) hC.RJ hC.cO hC.TO _ ⟨_,hGO,hE⟩ hS Ve p hx hy))
 obtain⟨g1,x1⟩:=σ1
 obtain⟨rfl,hL⟩:=hq
 (try dsimp only at hL)
 have YN:=hC.Q6 (σ:=⟨G,σ.next+1+1+1+1⟩) hL
 have hn:=hL.1
 have hf:=hL.2.1
 obtain⟨YD,Vk,LF⟩:=hL.2.2
 (try dsimp only at hn hf)
 refine hN _ _ ?_
 clear hN N
 (try((repeat(revert hN;revert N;apply Pn.out));refine wk @Nat.zero_add ?_;(repeat(refine Pn.mk ?_;intro N hN))))
 exact eS (.inr rfl) (vs:=[]) rfl ⟨rfl,⟨YN.frame aT fun _ _=>rfl,YD,Vk,(LF.frame aT fun x hx _=>rfl).mono fun q _=>by
  by_cases hq:∃k:Nat,k<4/\q=bt p k
  ·exact .inr hq
  ·exact .inl hq⟩,aT,fun x SZ hxT HQ=>(hf x ah HQ).trans (hG x SZ hxT HQ)⟩
end Go.Proofs.YtgoljkjaameagaaGreat.V

namespace Go.Proofs.YtgoljkjaameagaaGreat.V
open Go.RowKit
def EG (m:MK) (it nx ok en:Nat) (id:Id) (B:(Ex->Env->aw->Prop)->Env->aw->Prop) (b b1:Nat) (Q:Ex->Env->aw->Prop):Nat->List (List AV)->Env->aw->Prop
 |0,_,env,σ=>env it=.ptr id 0 0/\Q .normal (upd (upd env (some nx) (.gJ [.bool false])) (some ok) (.bool false)) ⟨σ.get,σ.next+1⟩
 |n+1,left,env,σ=>env it=.ptr id 0 0/\∀i cs kv vv,left[i]? =some cs->part m.ka m.ks cs=some kv->cs[m.ks]? =some vv->
   B (aZ b1 (dj (EG m it nx ok en id B b b1 Q n (left.eraseIdx i)) (aZ b Q))) (upd (upd (upd env (some nx) (.gJ [.bool true,kv,vv])) (some ok) (.bool true)) (some en) (.gJ [kv,vv])) ⟨σ.get,σ.next+1⟩
def J0 (m:MK) (tm:O) (site it nx ok en:Nat) (B:(Ex->Env->aw->Prop)->Env->aw->Prop) (b b1:Nat) (Q:Ex->Env->aw->Prop) (env:Env) (σ:aw):Prop:=
 ∃id r,dc env tm=.map id m/\σ.get id=some r/\r.w=true/\EG m it nx ok en ⟨site,σ.next⟩ B b b1 Q r.rows.length r.rows (upd env (some it) (.ptr ⟨site,σ.next⟩ 0 0)) ⟨bE σ.get id {r with w:=false},σ.next+1⟩
variable {P:Program} {w w':World} {D D':Nat->Prop} {ι ι':Names} {hs:Nat} {g:Rows}
theorem kd.FQ (hc:∀b x,D b->w'.cell? ⟨b,x,none⟩=w.cell? ⟨b,x,none⟩) {a:AV} {v:Value} (h:kd P w D a v):kd P w' D a v:=by
 induction h with
 |int k n=>exact .int k n
 |bool b=>exact .bool b
 |str s=>exact .str s
 |bI=>exact .bI
 |iA=>exact .iA
 |jo=>exact .jo
 |jE=>exact .jE
 |CJ a c h=>exact .CJ a c h
 |sl rows b o n c sz vs h1 h2 h3 h4 h5 h5' h6 _ ih=>exact .sl rows b o n c sz vs h1 h2 h3 h4 h5 h5' (fun i j hi hj=>(hc b _ h4).trans (h6 i j hi hj)) ih
 |dn cs b o vs h1 QD h2 _ ih=>exact .dn cs b o vs h1 QD (fun j hj=>(hc b _ h1).trans (h2 j hj)) ih
 |agg cs vs f h1 h2 h3 _ ih=>exact .agg cs vs f h1 h2 h3 ih
 |fn f dh vs g h1 h2 h3 _ ih=>exact .fn f dh vs g h1 h2 h3 ih
theorem dd.FQ (hc:∀b x,D b->w'.cell? ⟨b,x,none⟩=w.cell? ⟨b,x,none⟩) {a:AV} {v:Value} (h:dd P w D ι a v):dd P w' D ι a v:=by
 induction h with
 |eV a v h=>exact .eV a v (h.FQ hc)
 |map id m B h1 h2=>exact .map id m B h1 h2
 |sQ id c B h1 h2=>exact .sQ id c B h1 h2
 |own id off len o cap B h1 h2 h3 h4 h5 h6=>exact .own id off len o cap B h1 h2 h3 h4 h5 h6
 |ptr id i off B h1 h2=>exact .ptr id i off B h1 h2
 |agg cs vs f h1 h2 h3 _ ih=>exact .agg cs vs f h1 h2 h3 ih
 |gJ cs vs f h1 h2 _ ih=>exact .gJ cs vs f h1 h2 ih
 |fn f dh vs g h1 h2 h3 _ ih=>exact .fn f dh vs g h1 h2 h3 ih
 |vU f dh vs g h1 h2 h3 _ ih=>exact .vU f dh vs g h1 h2 h3 ih
def nM (w:World) (rr:Nat):Prop:=∃m s seen c,w.heap[rr]? =some (.mapIter m s seen c)
theorem nM.cell {rr:Nat} (h:nM w rr) (x:Nat):w.cell? ⟨rr,x,none⟩=none:=by
 obtain⟨m,s,seen,c,h⟩:=h
 simp[World.cell?,h]
theorem iF.MD {B:uf} {r:Row} (R:iF P w D ι B r):¬nM w B.b:=by
 rintro⟨m,s,seen,c,h⟩
 cases hk:B.k with
 |none=>obtain⟨c',T,h3,_⟩:=(R.row hk).tV;rw[h]at h3;cases h3
 |some k=>
  cases k with
  |map m=>obtain⟨_,es,c',h3,_⟩:=R.map m hk;rw[h]at h3;cases h3
  |chan c=>obtain⟨_,buf,s',q,h3,_⟩:=R.chan c hk;rw[h]at h3;cases h3
theorem Ao {rr:Nat} (h:nM w rr) (h':nM w' rr) (ho:∀b,b≠rr->w'.heap[b]? =w.heap[b]?):(∀{a v},dd P w D ι a v->dd P w' D ι a v):=fun hr=>hr.FQ fun b x _=>by
 by_cases hb:b=rr
 ·subst hb;rw[h.cell,h'.cell]
 ·exact World.cell?_of_block (ho b hb)
theorem gR.iter {rr:Nat} (S:gR P hs D ι g w) (h:nM w rr) (h':nM w' rr) (ho:∀b,b≠rr->w'.heap[b]? =w.heap[b]?) (hz:w'.heap.size=w.heap.size):gR P hs D ι g w':=
 ⟨by rw[hz];exact S.lo,fun b hb=>by rw[hz];exact S.dead b hb,fun id r hg=>by
  obtain⟨B,hB,R,k1,k2⟩:=S.row id r hg
  exact⟨B,hB,R.frame (ho _ fun e=>R.MD (e▸h)) fun a v hr=>Ao h h' ho hr,k1,k2⟩,S.inj⟩
theorem nI {ops:Array Oper} {Q:Exit->Act->World->Prop} {a:Act} {o:Oper} {l:List Oper} {v:Value} (hg:o.guard=none) (fP:(execOp a.eval o).run P w=.ok (.value v) w') (h:wpList P ops Q l (a.put o.dst v) w'):wpList P ops Q (o::l) a w:=by
 unfold wpList
 rw[if_pos (by simp[Region.wanted,hg])]
 exact .inl (by unfold Oper.wp;rw[fP];exact h)
theorem MX {x y:AV} {u v:Value} (h1:dd P w D ι x u) (h2:dd P w D ι y v):dd P w D ι (.gJ [x,y]) (.tuple #[u,v]):=
 .gJ _ _ (fun j=>if j=0 then u else v) rfl (fun j hj=>by match j,hj with|0,_=>rfl|1,_=>rfl|j+2,hj=>simp at hj;omega) (fun j a ha=>by match j,ha with|0,ha=>simp at ha;subst ha;exact h1|1,ha=>simp at ha;subst ha;exact h2|j+2,ha=>simp at ha)
theorem MY {x y z:AV} {u v t:Value} (h1:dd P w D ι x u) (h2:dd P w D ι y v) (h3:dd P w D ι z t):dd P w D ι (.gJ [x,y,z]) (.tuple #[u,v,t]):=
 .gJ _ _ (fun j=>if j=0 then u else if j=1 then v else t) rfl (fun j hj=>by match j,hj with|0,_=>rfl|1,_=>rfl|2,_=>rfl|j+3,hj=>simp at hj;omega) (fun j a ha=>by match j,ha with|0,ha=>simp at ha;subst ha;exact h1|1,ha=>simp at ha;subst ha;exact h2|2,ha=>simp at ha;subst ha;exact h3|j+3,ha=>simp at ha)
theorem MV {x:AV} {u:Value} (h1:dd P w D ι x u):dd P w D ι (.gJ [x]) (.tuple #[u]):=
 .gJ _ _ (fun _=>u) rfl (fun j hj=>by match j,hj with|0,_=>rfl|j+1,hj=>simp at hj) (fun j a ha=>by match j,ha with|0,ha=>simp at ha;subst ha;exact h1|j+1,ha=>simp at ha)
structure Qt (P:Program) (w:World) (D:Nat->Prop) (ι:Names) (m:MK) (L:List MapEntry) (left:List (List AV)):Prop where
 len:left.length=L.length
 at_:∀(i:Nat) (cs:List AV),left[i]? =some cs->∃(e:MapEntry) (kv vv:AV),L[i]? =some e/\part m.ka m.ks cs=some kv/\cs[m.ks]? =some vv/\dd P w D ι kv e.key/\dd P w D ι vv e.val
theorem Qt.rep {m:MK} {L:List MapEntry} {left:List (List AV)} (h:Qt P w D ι m L left) (hr:∀{a v},dd P w D ι a v->dd P w' D' ι' a v):Qt P w' D' ι' m L left:=⟨h.len,fun i cs hi=>by
 obtain⟨e,kv,vv,h1,h2,h3,h4,h5⟩:=h.at_ i cs hi
 exact⟨e,kv,vv,h1,h2,h3,hr h4,hr h5⟩⟩
theorem nU {α β:Type} {l:List α} {k:List β} {i j:Nat} {x:α} (hl:l.length=k.length) (h:(l.eraseIdx i)[j]? =some x):∃q:Nat,l[q]? =some x/\(k.eraseIdx i)[j]? =k[q]? :=by
 rw[List.getElem?_eraseIdx]at h
 split at h
 ·rename_i hj;exact⟨j,h,by rw[List.getElem?_eraseIdx,if_pos hj]⟩
 ·rename_i hj;exact⟨j+1,h,by rw[List.getElem?_eraseIdx,if_neg hj]⟩
theorem Qt.erase {m:MK} {L:List MapEntry} {left:List (List AV)} (h:Qt P w D ι m L left) {i:Nat} (hi:i<L.length):Qt P w D ι m (L.eraseIdx i) (left.eraseIdx i):=⟨by
 rw[List.length_eraseIdx,List.length_eraseIdx,h.len],fun j cs hj=>by
 obtain⟨q,hq,he⟩:=nU h.len hj
 obtain⟨e,kv,vv,h1,h2⟩:=h.at_ q cs hq
 exact⟨e,kv,vv,he.trans h1,h2⟩⟩
theorem oM:∀{l:List MapEntry} {i:Nat} {e:MapEntry},(l.map (·.born)).Nodup->l[i]? =some e->l.filter (fun x=>x.born !=e.born)=l.eraseIdx i
 |x::l,0,e,hn,h=>by
  simp at h;subst h
  obtain⟨h1,h2⟩:=List.nodup_cons.1 (show(x.born::l.map (·.born)).Nodup from hn)
  rw[List.filter_cons,if_neg (by simp),List.eraseIdx_cons_zero]
  refine List.filter_eq_self.2 fun y hy=>?_
  have:y.born≠x.born:=fun hc=>h1 (by rw[<-hc];exact List.mem_map_of_mem hy)
  simpa using this
 |x::l,i+1,e,hn,h=>by
  obtain⟨h1,h2⟩:=List.nodup_cons.1 (show(x.born::l.map (·.born)).Nodup from hn)
  simp only[List.getElem?_cons_succ]at h
  have hx:x.born≠e.born:=fun hc=>h1 (by rw[hc];exact List.mem_map_of_mem (List.mem_of_getElem? h))
  rw[List.filter_cons,if_pos (by simpa using hx),List.eraseIdx_cons_succ,oM h2 h]
theorem x7 {es:Array MapEntry} {clock:Nat} {seen:Array Nat} {i:Nat} {e:MapEntry} (hs:Hn es clock) (h:(leftOf es seen).toList[i]? =some e):(leftOf es (seen.push e.born)).toList=(leftOf es seen).toList.eraseIdx i:=by
 have hn:((leftOf es seen).toList.map (·.born)).Nodup:=by
  unfold leftOf
  rw[Array.toList_filter]
  exact((List.filter_sublist (p:=fun e=> !seen.contains e.born) (l:=es.toList)).map MapEntry.born).nodup hs.2
 rw[<-oM hn h]
 unfold leftOf
 rw[Array.toList_filter,Array.toList_filter,List.filter_filter]
 refine List.filter_congr fun x _=>?_
 rw[contains_push]
 cases seen.contains x.born<;>cases hb:(x.born==e.born)<;>simp_all
theorem eval_put {a:Act} {d:Nat} {v:Value} (h:d<a.tmps.size):(a.put (some d) v).eval (.tmp d)=v:=by
 simp[Act.put,Act.eval,h]
def M3 (ix ie b b1 ok:Nat) (GB JQ GA:Oper) (tt:List Oper) (oL:Code):Code:=
 .seq (.region ix #[GB,JQ] false) (.seq (.cond (.tmp ok) .skip (.exit b)) (.block b1 (.seq (.region ie (GA::tt).toArray false) oL)))
structure KP (P:Program) (md:List (Nat×Nat)) (nt fid s0 it nx ok en:Nat) (GB JQ GA:Oper) (tt:List Oper) (oL:Code) (vE:List bx) (tT:VC):Prop where
 h1:GB.op=.next (.tmp it) false
 h2:GB.dst=some nx
 h3:GB.guard=none
 h4:JQ.op=.extract (.tmp nx) 0
 h5:JQ.dst=some ok
 h6:JQ.guard=none
 h7:GA.op=.entry (.tmp it)
 h8:GA.dst=some en
 h9:GA.guard=none
 UC:nx<nt
 X2:ok<nt
 lt3:en<nt
 ne1:it≠nx
 ne2:it≠ok
 hE:allM (lP P (GA::tt).toArray nt s0 false false #[] []) tt 1=some vE
 hR:jK P md nt fid oL=some tT
theorem GL (hm:P.follows .mixedOrders=true) {md:List (Nat×Nat)} {nt fid s0 ix ie b b1 it nx ok en:Nat} {m:MK} {id:Id} {GB JQ GA:Oper} {tt:List Oper} {oL:Code} {vE:List bx} {tT:VC}
  (O:KP P md nt fid s0 it nx ok en GB JQ GA tt oL vE tT) {rr bm:Nat} {es:Array MapEntry} {clock:Nat} (DV:Hn es clock) {ds:List Deferred} {n0:Nat} {D0:Nat->Prop} {ι0:Names} {w0:World} {Q:Ex->Env->aw->Prop} {Q':Exit->Act->World->Prop}
  (hQ:ve P hs nt ds Q n0 D0 ι0 w0 Q') (hD0:¬D0 rr) (hrr:hs<=rr) (iD:bm≠rr):
  ∀(n:Nat) (left:List (List AV)) (env:Env) (σ:aw) (a:Act) (w:World) (D:Nat->Prop) (ι:Names) (seen:Array Nat),
   EG m it nx ok en id (dK (Sound P) (.seq (.eQ false vE) tT)) b b1 Q n left env σ->St P hs nt D ι env σ a w->a.defers=ds->n0<=σ.next->Step hs D0 ι0 w0 D ι w->
   (∃sz C,ι id=some ⟨rr,sz,C,none⟩)->D rr->D bm->w.heap[rr]? =some (.mapIter (some bm) clock seen clock)->w.heap[bm]? =some (.map es clock)->left.length=n->Qt P w D ι m (leftOf es seen).toList left->
   qC P (M3 ix ie b b1 ok GB JQ GA tt oL) (Exit.inBlock b Q') (n+1) a w:=by
 intro n
 induction n with
 |zero=>
  intro left env σ a w D ι seen hv dC hd E8 T hid YS YP hr hb hlen hL
  obtain⟨Kx,hq⟩:=hv
  have ha:a.tmps.getD it undef=.pointer (some ⟨rr,0,none⟩):=by
   have:=dC.env it
   rw[Kx]at this
   obtain⟨B,e,hB,_⟩:=iN this
   obtain⟨sz,C,hid⟩:=hid
   rw[hid]at hB;injection hB with hB;subst hB
   simpa using e
  have Xt:a.eval (.tmp it)=.pointer (some ⟨rr,0,none⟩):=ha
  rcases run_next_at (P:=P) w GB.type rr bm clock clock seen es clock hr hb DV.1 (Nat.le_refl _)with⟨_,fP⟩|⟨e,he,_⟩
  rotate_left
  ·have h0:(leftOf es seen).toList=[]:=List.eq_nil_of_length_eq_zero (by rw[<-hL.len,hlen])
   rw[h0]at he;simp at he
  have Fa:nx<a.tmps.size:=by rw[dC.size];exact O.UC
  have E2:=iX (iX dC.env (MV (.eV _ _ (.bool false))) (dst:=some nx) (fun d h=>by cases h;exact O.UC) dC.size) (.eV _ _ (.bool false)) (dst:=some ok) (fun d h=>by cases h;exact O.X2) (by rw[fh];exact dC.size)
  show CB P (.seq _ _) _ a w
  refine mK (lf (wp_region_list ?_))
  refine nI (v:=.tuple #[.bool false]) (w':=w) O.h3 (by simp[execOp,O.h1,Xt,fP,Result.andThen]) ?_
  refine nI (v:=.bool false) (w':=w) O.h6 (by rw[O.h2];simp[execOp,O.h4,eval_put Fa,Instr.extract]) ?_
  rw[O.h2,O.h5]
  refine mK (yp (t:=false) (eval_put (by rw[fh,dC.size];exact O.X2)) (lf (wp_exit ?_)))
  show Exit.inBlock b Q' (.exit b) _ _
  simp only[Exit.inBlock,if_true]
  exact hQ .normal _ ⟨σ.get,σ.next+1⟩ _ w D ι hq T ⟨dC.uU,dC.used.next,E2,by rw[fh,fh];exact dC.size⟩ (by rw[put_defers,put_defers];exact hd) (Nat.le_succ_of_le E8)
 |succ n ih=>
  intro left env σ a w D ι seen hv dC hd E8 T hid YS YP hr hb hlen hL
  obtain⟨Kx,hq⟩:=hv
  have ha:a.tmps.getD it undef=.pointer (some ⟨rr,0,none⟩):=by
   have:=dC.env it
   rw[Kx]at this
   obtain⟨B,e,hB,_⟩:=iN this
   obtain⟨sz,C,hid⟩:=hid
   rw[hid]at hB;injection hB with hB;subst hB
   simpa using e
  have Xt:a.eval (.tmp it)=.pointer (some ⟨rr,0,none⟩):=ha
  rcases run_next_at (P:=P) w GB.type rr bm clock clock seen es clock hr hb DV.1 (Nat.le_refl _)with⟨h0,_⟩|⟨e,he,w1,jt,fP⟩
  ·have:=hL.len
   rw[hlen,Array.length_toList]at this;omega
  obtain⟨i,hi,F8⟩:=List.getElem_of_mem he
  have VI:(leftOf es seen).toList[i]? =some e:=by rw[List.getElem?_eq_getElem hi,F8]
  have mb:i<left.length:=by rw[hL.len];exact hi
  obtain⟨e',kv,vv,q1,q2,q3,q4,q5⟩:=hL.at_ i left[i] (List.getElem?_eq_getElem mb)
  rw[VI]at q1;injection q1 with q1;subst q1
  replace hq:=hq i left[i] kv vv (List.getElem?_eq_getElem mb) q2 q3
  have DO:w1.heap[rr]? =some (.mapIter (some bm) clock seen clock):=by rcases jt with rfl|rfl<;>exact hr
  have eb:=MapKept.heap_set (o':=.mapIter (some bm) clock (seen.push e.born) clock) DO
  obtain⟨w2,ml⟩:∃w2,ChangeMaps.setBlock w1 rr (.mapIter (some bm) clock (seen.push e.born) clock)=w2:=⟨_,rfl⟩
  have ho:∀k,k≠rr->w2.heap[k]? =w.heap[k]? :=fun k hk=>by
   rw[<-ml]
   refine(eb.2 k hk).trans ?_
   rcases jt with rfl|rfl<;>rfl
  have hz:w2.heap.size=w.heap.size:=by
   rw[<-ml]
   rcases jt with rfl|rfl<;>simp[ChangeMaps.setBlock]
  have za:w2.heap[rr]? =some (.mapIter (some bm) clock (seen.push e.born) clock):=by rw[<-ml];exact eb.1
  have wJ:w2.os=w.os/\w2.tape=w.tape/\w2.output=w.output:=by
   rw[<-ml]
   rcases jt with rfl|rfl<;>exact⟨rfl,rfl,rfl⟩
  rw[ml]at fP
  clear ml eb
  have I1:nM w rr:=⟨_,_,_,_,hr⟩
  have I2:nM w2 rr:=⟨_,_,_,_,za⟩
  have rt:∀{a v},dd P w D ι a v->dd P w2 D ι a v:=Ao I1 I2 ho
  have S2:=dC.uU.iter I1 I2 ho hz
  have T2:Step hs D0 ι0 w0 D ι w2:=⟨⟨wJ.1.trans T.below.os,wJ.2.1.trans T.below.tape,wJ.2.2.trans T.below.output,by rw[hz];exact T.below.size,fun k hk=>(ho k ah).trans (T.below.block k hk)⟩,fun k hk=>(ho k (fun hc=>hD0 (hc▸hk))).trans (T.tf k hk),T.dead,T.names,T.new⟩
  have Ab:w2.heap[bm]? =some (.map es clock):=(ho bm iD).trans hb
  have Fa:nx<a.tmps.size:=by rw[dC.size];exact O.UC
  have E1:cD P w2 D ι env a:=fun t=>rt (dC.env t)
  have E2:=iX (iX E1 (MY (.eV _ _ (.bool true)) (rt q4) (rt q5)) (dst:=some nx) (fun d h=>by cases h;exact O.UC) dC.size) (.eV _ _ (.bool true)) (dst:=some ok) (fun d h=>by cases h;exact O.X2) (by rw[fh];exact dC.size)
  have E3:=iX E2 (MX (rt q4) (rt q5)) (dst:=some en) (fun d h=>by cases h;exact O.lt3) (by rw[fh,fh];exact dC.size)
  have DG:=run_entry_at (P:=P) w2 rr bm clock seen es clock e za Ab (mem_left he).1 DV.2
  show CB P (.seq _ _) _ a w
  refine mK (lf (wp_region_list ?_))
  refine nI (v:=.tuple #[.bool true,e.key,e.val]) (w':=w2) O.h3 (by simp[execOp,O.h1,Xt,fP,Result.andThen]) ?_
  refine nI (v:=.bool true) (w':=w2) O.h6 (by rw[O.h2];simp[execOp,O.h4,eval_put Fa,Instr.extract]) ?_
  rw[O.h2,O.h5]
  refine mK (yp (t:=true) (eval_put (by rw[fh,dC.size];exact O.X2)) (lf (wp_skip ?_)))
  refine uO (mK (lf (wp_region_list ?_)))
  show wpList P _ _ (GA::tt) _ _
  have ha3:(((a.put (some nx) (.tuple #[.bool true,e.key,e.val])).put (some ok) (.bool true)).eval (.tmp it))=.pointer (some ⟨rr,0,none⟩):=by
   have n1:=O.ne1
   have n2:=O.ne2
   rw[<-Xt]
   simp[Act.put,Act.eval,Array.getD_eq_getD_getElem?,Array.getElem?_setIfInBounds,Ne.symm n1,Ne.symm n2]
  refine nI (v:=.tuple #[e.key,e.val]) (w':=w2) O.h9 (by simp[execOp,O.h7,ha3,DG,Result.andThen]) ?_
  rw[O.h8]
  refine AD tt vE 1 _ ⟨σ.get,σ.next+1⟩ _ w2 D ι (fun _=>False) O.hE hq S2 dC.used.next (fun _ h=>h.elim) E3 (by rw[fh,fh,fh];exact dC.size) fun YC σ3 a3 w3 D3 ι3 hk T3 St3 Vw Zw=>?_
  refine rN hm oL tT O.hR _ YC σ3 a3 w3 D3 ι3 _ hk St3 fun ex Ln σ4 a4 w4 D4 ι4 L5 T4 Yg Sk Zx=>?_
  have Zg:a4.defers=ds:=by rw[Sk,Vw,put_defers,put_defers,put_defers];exact hd
  have ZK:n0<=σ4.next:=Nat.le_trans E8 (Nat.le_trans (Nat.le_succ _) (Nat.le_trans Zw Zx))
  have Ro:=T3.trans T4
  have TT:=T2.trans Ro
  have vW:EG m it nx ok en id (dK (Sound P) (.seq (.eQ false vE) tT)) b b1 Q n (left.eraseIdx i) Ln σ4->qC P (M3 ix ie b b1 ok GB JQ GA tt oL) (Exit.inBlock b Q') (n+1) a4 w4:=fun hq5=>by
   refine ih (left.eraseIdx i) Ln σ4 a4 w4 D4 ι4 (seen.push e.born) hq5 Yg Zg ZK TT ?_ (Ro.dead _ YS) (Ro.dead _ YP) ((Ro.tf _ YS).trans za) ((Ro.tf _ YP).trans Ab) ?_ ?_
   ·obtain⟨sz,C,hid⟩:=hid;exact⟨sz,C,Ro.names _ _ hid⟩
   ·rw[List.length_eraseIdx,if_pos mb,hlen];rfl
   ·rw[x7 DV VI]
    exact(hL.erase hi).rep fun hr=>Ro.rep (rt hr)
  have out:∀ex,ex≠.normal->Q ex Ln σ4->Q' (W6 ex) a4 w4:=fun ex _ h=>hQ ex Ln σ4 a4 w4 D4 ι4 h TT Yg Zg ZK
  cases ex with
  |normal=>exact vW L5
  |ret=>exact out .ret (by simp) L5
  |exit kE=>
   simp only[aZ]at L5
   simp only[W6,Exit.inBlock]
   by_cases h1:kE=b1
   ·rw[if_pos h1]at L5 ⊢
    exact vW L5
   ·rw[if_neg h1]at L5 ⊢
    simp only[dj,aZ]at L5
    show Exit.inBlock b Q' (.exit kE) a4 w4
    simp only[Exit.inBlock]
    by_cases h2:kE=b
    ·rw[if_pos h2]at L5 ⊢
     exact hQ .normal Ln σ4 a4 w4 D4 ι4 L5 TT Yg Zg ZK
    ·rw[if_neg h2]at L5 ⊢
     exact out (.exit kE) (by simp) L5
def CS (P:Program) (nt:Nat) (c:Code) (W:(Ex->Env->aw->Prop)->Env->aw->Prop):Prop:=
 ∀(hs:Nat) (Q:Ex->Env->aw->Prop) (env:Env) (σ:aw) (a:Act) (w:World) (D:Nat->Prop) (ι:Names) (Q':Exit->Act->World->Prop),W Q env σ->St P hs nt D ι env σ a w->ve P hs nt a.defers Q σ.next D ι w Q'->CB P c Q' a w
theorem CS.code (hm:P.follows .mixedOrders=true) {md:List (Nat×Nat)} {nt fid:Nat} {c:Code} {vc:VC} (h:jK P md nt fid c=some vc):CS P nt c (dK (Sound P) vc):=
 fun _ Q env σ a w D ι Q' hv dC hQ=>rN hm c vc h Q env σ a w D ι Q' hv dC hQ
theorem CS.seq {nt:Nat} {x y:Code} {V W:(Ex->Env->aw->Prop)->Env->aw->Prop} (h:CS P nt x V) (k:CS P nt y W):CS P nt (.seq x y) (fun Q=>V (dj (W Q) Q)):=fun hs Q env σ a w D ι Q' hv dC hQ=>by
 refine mK (h hs _ env σ a w D ι _ hv dC fun ex jA σ1 a1 w1 D1 ι1 hq T kR hd hle=>?_)
 cases ex with
 |normal=>exact k hs Q jA σ1 a1 w1 D1 ι1 Q' hq kR (by rw[hd];exact hQ.later T hle)
 |exit id=>exact hQ (.exit id) jA σ1 a1 w1 D1 ι1 hq T kR hd hle
 |ret=>exact hQ .ret jA σ1 a1 w1 D1 ι1 hq T kR hd hle
theorem CS.rng (hm:P.follows .mixedOrders=true) {md:List (Nat×Nat)} {nt fid s0 sA site ia ix ie b b1 it nx ok en:Nat} {m:MK} {GB JQ GA GF:Oper} {MN tt:List Oper} {oL:Code} {vA vE:List bx} {tT:VC} {t k e:TypeId} {tm:Operand} {tm':O}
  (O:KP P md nt fid s0 it nx ok en GB JQ GA tt oL vE tT) (h1:GF.op=.range t tm) (h2:GF.dst=some it) (h3:GF.guard=none) (ei:it<nt) (ht:P.underlying t=some (.map k e)) (KA:cO P tm=some tm') (hA:allM (lP P (MN++[GF]).toArray nt sA false false #[] []) MN 0=some vA):
  CS P nt (.seq (.region ia (MN++[GF]).toArray false) (.block b (.loop (M3 ix ie b b1 ok GB JQ GA tt oL))))
   (fun Q=>wpOps (Sound P) false vA (J0 m tm' site it nx ok en (dK (Sound P) (.seq (.eQ false vE) tT)) b b1 Q)):=fun hs Q env σ a w D ι Q' hv dC hQ=>by
 refine mK (lf (wp_region_list ?_))
 show wpList P _ _ (MN++[GF]) a w
 refine yq [GF] MN vA 0 env σ a w D ι (fun _=>False) hA hv dC.uU dC.used (fun _ h=>h.elim) dC.env dC.size fun jA σ1 a1 w1 D1 ι1 hk T sI w5 Jc=>?_
 obtain⟨id,r,hid,hg,hw,hr⟩:=hk
 have il:=dw sI.env KA
 rw[hid]at il
 obtain⟨B,hv,hB,hk⟩:=B9 il
 obtain⟨B',dL,R,j6,lk⟩:=sI.uU.row id r hg
 rw[hB]at dL;injection dL with dL;subst dL
 obtain⟨hrsz,es,clock,hb,fm,⟨hlen,DV⟩,hM⟩:=R.map m hk
 have Xg:=R.lt
 have fP:=run_range_map (P:=P) w1 t k e B.b es clock ht hb
 refine nI (v:=.pointer (some ⟨w1.heap.size,0,none⟩)) (w':=w1.alloc (.mapIter (some B.b) clock #[] clock)) h3 (by simp[execOp,h1,hv,fP,Result.andThen]) ?_
 rw[h2]
 obtain⟨w2,ml⟩:∃w2,w1.alloc (.mapIter (some B.b) clock #[] clock)=w2:=⟨_,rfl⟩
 have hblk:∀b,b<w1.heap.size->w2.heap[b]? =w1.heap[b]? :=fun b hb=>by rw[<-ml];exact Below.heap_alloc _ _ _ hb
 have k8:w2.heap[w1.heap.size]? =some (.mapIter (some B.b) clock #[] clock):=by rw[<-ml];exact heap_alloc_new _ _
 have hz:w2.heap.size=w1.heap.size+1:=by rw[<-ml];simp
 have wJ:w2.os=w1.os/\w2.tape=w1.tape/\w2.output=w1.output:=by rw[<-ml];exact⟨rfl,rfl,rfl⟩
 rw[ml]
 clear ml fP
 let D2:Nat->Prop:=fun x=>D1 x∨x=B.b∨x=w1.heap.size
 let ι2:Names:=kW ι1 ⟨site,σ1.next⟩ ⟨w1.heap.size,1,0,none⟩
 have j4:ι1 ⟨site,σ1.next⟩=none:=fresh sI.used (fun h=>h)
 have XR:∀{a v},dd P w1 D1 ι1 a v->dd P w2 D2 ι2 a v:=fun h=>h.frame (fun b hd=>hblk b (sI.uU.dead b hd)) (fun _ h=>.inl h) (fj j4)
 have AA:∀{j q C},σ1.get j=some q->ι2 j=some C->ι1 j=some C:=fun {j q C} hj hC=>by
  obtain⟨C',wH,_⟩:=sI.uU.row j q hj
  have:=fj (B:=⟨w1.heap.size,1,0,none⟩) j4 j C' wH
  have e:=this.symm.trans hC
  injection e with e;rw[<-e];exact wH
 have lt:∀{j q C},σ1.get j=some q->ι1 j=some C->C.b<w1.heap.size:=fun {j q C} hj hC=>by
  obtain⟨C',wH,R',_⟩:=sI.uU.row j q hj
  rw[hC]at wH;injection wH with wH;subst wH
  exact R'.lt
 have R3:∀{j q},bE σ1.get id {r with w:=false} j=some q->∃q0,σ1.get j=some q0/\(q.w=true->q=q0/\j≠id)/\(j=id->q={r with w:=false}/\q0=r)/\(j≠id->q=q0):=fun {j q} h=>by
  unfold bE at h
  split at h
  ·rename_i e
   injection h with h;subst h
   exact⟨r,e▸hg,fun h=>(by cases h),fun _=>⟨rfl,rfl⟩,fun hc=>absurd e hc⟩
  ·rename_i e
   exact⟨q,h,fun _=>⟨rfl,e⟩,fun hc=>absurd hc e,fun _=>rfl⟩
 have S2:gR P hs D2 ι2 (bE σ1.get id {r with w:=false}) w2:=by
  refine⟨by rw[hz];exact Nat.le_succ_of_le sI.uU.lo,fun b hb=>?_,fun j q h=>?_,fun j j' q q' C C' h h' L6 hC wH he=>?_⟩
  ·rw[hz]
   rcases hb with hb|rfl|rfl
   ·exact Nat.lt_succ_of_lt (sI.uU.dead b hb)
   ·exact Nat.lt_succ_of_lt Xg
   ·exact Nat.lt_succ_self _
  ·obtain⟨q0,QW,L6,BA,iD⟩:=R3 h
   obtain⟨C,hC,RC,k1,k2⟩:=sI.uU.row j q0 QW
   have hCl:=lt QW hC
   refine⟨C,fj j4 j C hC,?_,fun Uw=>k1 ((L6 Uw).1▸Uw),fun Uw hD=>?_⟩
   ·have RF:iF P w2 D2 ι2 C q0:=RC.frame (hblk _ hCl) fun a v h=>XR h
    by_cases hj:j=id
    ·obtain⟨e1,e2⟩:=BA hj
     rw[e1,<-e2];exact RF.flag false
    ·rw[iD hj];exact RF
   ·obtain⟨e1,e2⟩:=L6 Uw
    rcases hD with hD|hD|hD
    ·exact k2 (e1▸Uw) hD
    ·exact e2 (sI.uU.inj j id q0 r C B QW hg (e1▸Uw) hC hB hD)
    ·omega
  ·obtain⟨q0,QW,ZW,_⟩:=R3 h
   obtain⟨q0',V1,_⟩:=R3 h'
   exact sI.uU.inj j j' q0 q0' C C' QW V1 ((ZW L6).1▸L6) (AA QW hC) (AA V1 wH) he
 have T2:Step hs D1 ι1 w1 D2 ι2 w2:=⟨⟨wJ.1,wJ.2.1,wJ.2.2,ah,fun k hk=>hblk k (Nat.lt_of_lt_of_le hk sI.uU.lo)⟩,fun b hb=>hblk b (sI.uU.dead b hb),fun _ h=>.inl h,fj j4,fun b hb=>by
  rcases hb with hb|rfl|rfl
  ·exact .inl hb
  ·exact .inr (j6 hw)
  ·exact .inr sI.uU.lo⟩
 have E2:cD P w2 D2 ι2 (upd jA (some it) (.ptr ⟨site,σ1.next⟩ 0 0)) (a1.put (some it) (.pointer (some ⟨w1.heap.size,0,none⟩))):=
  iX (fun t=>XR (sI.env t)) (by have:=dd.ptr (P:=P) (w:=w2) (D:=D2) (ι:=ι2) ⟨site,σ1.next⟩ 0 0 ⟨w1.heap.size,1,0,none⟩ (ev _ _ _) rfl;simpa using this) (fun d h=>by cases h;exact ei) sI.size
 have L2:Qt P w2 D2 ι2 m (leftOf es #[]).toList r.rows:=by
  have he:(leftOf es #[]).toList=es.toList:=by simp[leftOf]
  rw[he]
  refine⟨by simpa using fm.symm,fun i cs hi=>?_⟩
  obtain⟨U3,kv,vv,q1,q2,q3,q4,q5⟩:=hM i cs hi
  exact⟨U3,kv,vv,by simpa using q1,q2,q3,XR q4,XR q5⟩
 show CB P (.block b (.loop (M3 ix ie b b1 ok GB JQ GA tt oL))) Q' _ w2
 exact uO (Ev (r.rows.length+1) (GL hm O DV (ds:=a.defers) (n0:=σ.next) (D0:=D) (ι0:=ι) (w0:=w) hQ
  (fun hc=>by have:=dC.uU.dead _ hc;have:=T.below.size;omega) sI.uU.lo ah r.rows.length r.rows _ ⟨bE σ1.get id {r with w:=false},σ1.next+1⟩ _ w2 D2 ι2 #[] hr
  ⟨S2,sI.used.upd.next,E2,by rw[fh];exact sI.size⟩ (by rw[put_defers];exact w5) (Nat.le_succ_of_le Jc) (T.trans T2) ⟨1,0,ev _ _ _⟩ (.inr (.inr rfl)) (.inr (.inl rfl)) k8 ((hblk _ Xg).trans hb) rfl L2))
theorem CS.fn {f:Nat} {fn:Func} {c:Code} {args:List AV} {σ:aw} {K:AV->aw->Prop} {vr:List oR} {W:(Ex->Env->aw->Prop)->Env->aw->Prop} (Ui:P.funcs[f]? =some fn) (hc:fn.body=some c) (hr:fn.results.toList.mapM (FC P)=some vr) (ha:fn.params.size+fn.nfree=args.length) (hle:fn.params.size+fn.nfree<=fn.ntmps)
  (h:CS P fn.ntmps c W) (hv:W (lE vr K) (cr args) σ):Call P f args σ K:=
 fN (xq Ui hc hr ha hle fun hs w D ι a Q' dC hQ=>h hs (lE vr K) (cr args) σ a w D ι Q' hv dC hQ)
theorem tU (hm:P.follows .mixedOrders=true) {c:VC} {Q Q':Ex->Env->aw->Prop} {env:Env} {σ:aw} (hQ:∀x e s,Q x e s->Q' x e s) (h:dK (Call P) c Q env σ):dK (Sound P) c Q' env σ:=
 jW (fun _ _ _ _ h=>gS hm h) lN c Q Q' env σ hQ h
theorem AL {m:MK} {it nx ok en:Nat} {id:Id} {B B':(Ex->Env->aw->Prop)->Env->aw->Prop} {b b1:Nat} {Q Q':Ex->Env->aw->Prop} (hB:∀R R' e s,(∀x e s,R x e s->R' x e s)->B R e s->B' R' e s) (hQ:∀x e s,Q x e s->Q' x e s):
  ∀(n:Nat) (left:List (List AV)) (env:Env) (σ:aw),EG m it nx ok en id B b b1 Q n left env σ->EG m it nx ok en id B' b b1 Q' n left env σ
 |0,_,env,σ,h=>⟨h.1,hQ _ _ _ h.2⟩
 |n+1,left,env,σ,h=>⟨h.1,fun i cs kv vv h1 h2 h3=>hB _ _ _ _ (fun x e s hx=>by
  have hn:=AL (id:=id) (m:=m) (it:=it) (nx:=nx) (ok:=ok) (en:=en) (b:=b) (b1:=b1) hB hQ n (left.eraseIdx i) e s
  cases x with
  |normal=>exact hn hx
  |ret=>exact hQ _ _ _ hx
  |exit kE=>
   simp only[aZ]at hx ⊢
   split at hx
   ·rename_i h1;rw[if_pos h1];exact hn hx
   ·rename_i h1
    rw[if_neg h1]
    simp only[dj,aZ]at hx ⊢
    split at hx
    ·rename_i h2;rw[if_pos h2];exact hQ _ _ _ hx
    ·rename_i h2;rw[if_neg h2];exact hQ _ _ _ hx) (h.2 i cs kv vv h1 h2 h3)⟩
theorem J1 (hm:P.follows .mixedOrders=true) {m:MK} {tm:O} {site it nx ok en:Nat} {c:VC} {b b1:Nat} {Q Q':Ex->Env->aw->Prop} {env:Env} {σ:aw} (hQ:∀x e s,Q x e s->Q' x e s) (h:J0 m tm site it nx ok en (dK (Call P) c) b b1 Q env σ):J0 m tm site it nx ok en (dK (Sound P) c) b b1 Q' env σ:=by
 obtain⟨id,r,h1,h2,h3,h4⟩:=h
 exact⟨id,r,h1,h2,h3,AL (B':=dK (Sound P) c) (fun R R' e s hR hb=>tU hm hR hb) hQ _ _ _ _ h4⟩
theorem se {α:Type}:∀{l:List α} {i:Nat} {x:α},l[i]? =some x->(x::l.eraseIdx i).Perm l
 |y::l,0,x,h=>by simp at h;subst h;exact List.Perm.refl _
 |y::l,i+1,x,h=>by
  simp only[List.getElem?_cons_succ]at h
  rw[List.eraseIdx_cons_succ]
  exact(List.Perm.swap _ _ _).trans ((se h).cons _)
theorem WJ {m:MK} {tm:O} {site it nx ok en:Nat} {c:VC} {b b1:Nat} {Q:Ex->Env->aw->Prop} {env:Env} {σ:aw} {id:Id} {r:Row} (I:List (List AV)->Env->aw->Prop) (h1:dc env tm=.map id m) (h2:σ.get id=some r) (h3:r.w=true) (Kx:([nx,ok,en]++zN c).contains it=false)
  (h0:I [] (upd env (some it) (.ptr ⟨site,σ.next⟩ 0 0)) ⟨bE σ.get id {r with w:=false},σ.next+1⟩)
  (step:∀pre cs rest e s kv vv,(pre++cs::rest).Perm r.rows->I pre e s->jr ([nx,ok,en]++zN c) (upd env (some it) (.ptr ⟨site,σ.next⟩ 0 0)) e->part m.ka m.ks cs=some kv->cs[m.ks]? =some vv->
   dK (Call P) c (aZ b1 (dj (I (pre++[cs])) (aZ b Q))) (upd (upd (upd e (some nx) (.gJ [.bool true,kv,vv])) (some ok) (.bool true)) (some en) (.gJ [kv,vv])) ⟨s.get,s.next+1⟩)
  (fin:∀pre e s,pre.Perm r.rows->I pre e s->jr ([nx,ok,en]++zN c) (upd env (some it) (.ptr ⟨site,σ.next⟩ 0 0)) e->Q .normal (upd (upd e (some nx) (.gJ [.bool false])) (some ok) (.bool false)) ⟨s.get,s.next+1⟩):
  J0 m tm site it nx ok en (dK (Call P) c) b b1 Q env σ:=by
 refine⟨id,r,h1,h2,h3,?_⟩
 have Vx:∀e,jr ([nx,ok,en]++zN c) (upd env (some it) (.ptr ⟨site,σ.next⟩ 0 0)) e->e it=.ptr ⟨site,σ.next⟩ 0 0:=fun e h=>by
  rw[h it Kx];simp[upd]
 have key:∀n left pre e s,(pre++left).Perm r.rows->left.length=n->I pre e s->jr ([nx,ok,en]++zN c) (upd env (some it) (.ptr ⟨site,σ.next⟩ 0 0)) e->EG m it nx ok en ⟨site,σ.next⟩ (dK (Call P) c) b b1 Q n left e s:=by
  intro n
  induction n with
  |zero=>
   intro left pre e s hp hl hI hK
   have:left=[]:=List.eq_nil_of_length_eq_zero hl
   subst this
   rw[List.append_nil]at hp
   exact⟨Vx e hK,fin pre e s hp hI hK⟩
  |succ n ih=>
   intro left pre e s hp hl hI hK
   refine⟨Vx e hK,fun i cs kv vv hi hk hv=>?_⟩
   have mb:=(List.getElem?_eq_some_iff.1 hi).1
   have rn:(cs::left.eraseIdx i).Perm left:=by
    exact se hi
   have E9:(pre++cs::left.eraseIdx i).Perm r.rows:=(rn.append_left pre).trans hp
   have Sg:jr ([nx,ok,en]++zN c) (upd env (some it) (.ptr ⟨site,σ.next⟩ 0 0)) (upd (upd (upd e (some nx) (.gJ [.bool true,kv,vv])) (some ok) (.bool true)) (some en) (.gJ [kv,vv])):=
    ((hK.upd (fun t h=>by cases h;simp)).upd (fun t h=>by cases h;simp)).upd (fun t h=>by cases h;simp)
   refine jW (fun _ _ _ _ h=>h) aI c _ _ _ _ (fun x e' s' hx=>?_) (AX c _ _ _ (fun t ht=>List.mem_append_right _ ht) Sg (step pre cs (left.eraseIdx i) e s kv vv E9 hI hK hk hv))
   obtain⟨hx,DJ⟩:=hx
   have vW:I (pre++[cs]) e' s'->EG m it nx ok en ⟨site,σ.next⟩ (dK (Call P) c) b b1 Q n (left.eraseIdx i) e' s':=fun YY=>
    ih (left.eraseIdx i) (pre++[cs]) e' s' (by rw[List.append_assoc];exact E9) (by rw[List.length_eraseIdx,if_pos mb];omega) YY DJ
   cases x with
   |normal=>exact vW hx
   |ret=>exact hx
   |exit kE=>
    simp only[aZ]at hx ⊢
    split at hx
    ·rename_i h1;rw[if_pos h1];exact vW hx
    ·rename_i h1;rw[if_neg h1];exact hx
 exact key _ r.rows [] _ _ (List.Perm.refl _) rfl h0 (jr.refl _ _)
end Go.Proofs.YtgoljkjaameagaaGreat.V

namespace Go.Proofs.YtgoljkjaameagaaGreat.V
open Go.RowKit
variable {P:Program} {hs:Nat}
theorem Kq {q n i:Nat} {ops:Array Oper} {Q:Exit->Act->World->Prop} {K K':Act->World->Prop} {a:Act} {w:World} (lk:∀(j:Nat) (o:Oper),ops[j]? =some o->∀c,o.op≠.defer c) (k9:¬LetsOut Q) (hK:∀a w,K a w->K' a w) (h:wpOp P ops Q i K a w):wpOpIn (Fence.wide.inRound q) n P ops Q i K' a w:=by
 unfold wpOp at h
 unfold wpOpIn
 split at h
 ·rename_i ho;simp only[ho];exact hK _ _ h
 ·rename_i o ho
  simp only[ho]
  split at h
  ·rename_i hw
   rw[if_pos hw]
   replace h:=h.resolve_right fun hc=>k9 hc.2
   refine⟨fun _ _=>trivial,?_⟩
   rw[Oper.semAt_eq _ _ _ (lk i o ho)]
   unfold Oper.wp at h
   generalize (execOp a.eval o).run P w=r at *
   cases r with
   |ok m w'=>
    cases m<;>simp only[Oper.upon,Oper.uponIn]at h ⊢
    case value=>exact hK _ _ h
    case skip=>exact hK _ _ h
    case defer=>exact hK _ _ h
    case enter f args=>
     refine⟨fun h=>by simp[Fence.wide]at h,CallsIn.inRound q (callsIn_wide.2 (h.mono fun e Ob he=>?_))⟩
     cases e with
     |returned v=>exact hK _ _ he
     |panicked c=>exact he
     |outgrown=>exact he
    case row r args=>exact⟨fun h=>by simp[Fence.wide]at h,fun c cs _=>let ⟨v,Ob,h1,s⟩:=h c cs;⟨v,Ob,hK _ _ h1,stepsIn_wide.2 s⟩⟩
   |halt x w'=>cases x<;>simp only[Oper.upon,Oper.uponIn]at h ⊢;exact h
  ·rename_i hw
   rw[if_neg hw]
   exact⟨fun _ _=>trivial,hK _ _ h⟩
theorem y6 {q n:Nat} {md:Region.Mode} {ops:Array Oper} {Q:Exit->Act->World->Prop} (lk:∀(j:Nat) (o:Oper),ops[j]? =some o->∀c,o.op≠.defer c) (k9:¬LetsOut Q):∀(fuel:Nat) (listed:Array Bool) (a:Act) (w:World),wpAny P md ops Q fuel listed a w->wpAnyIn (Fence.wide.inRound q) n P md ops Q fuel listed a w
 |0,_,_,_,h=>h
 |fuel+1,listed,_,_,h=>⟨h.1,fun i hi=>Kq lk k9 (fun a w=>y6 lk k9 fuel _ a w) (h.2 i hi)⟩
def HV:Op->Bool
 | .defer _=>true
 |_=>false
theorem MC {ops:Array Oper} (h:(ops.all fun o=> !HV o.op)=true):∀(j:Nat) (o:Oper),ops[j]? =some o->∀c,o.op≠.defer c:=fun j o hj c hc=>by
 have:=Array.all_eq_true_iff_forall_mem.1 h o (Array.mem_of_getElem? hj)
 rw[hc]at this
 simp[HV]at this
theorem B8 (hm:P.follows .mixedOrders=true) {nt site0 id q n:Nat} {ops:Array Oper} {vl:List bx} (h:sP P nt site0 ops true false=some vl) (lk:∀(j:Nat) (o:Oper),ops[j]? =some o->∀c,o.op≠.defer c)
  {K:Env->aw->Prop} {env:Env} {σ:aw} {a:Act} {w:World} {D:Nat->Prop} {ι:Names} {Q:Exit->Act->World->Prop} (hv:wpOps (Sound P) true vl K env σ) (dC:St P hs nt D ι env σ a w)
  (hK:∀je σ' a' w' D' ι',K je σ'->Step hs D ι w D' ι' w'->St P hs nt D' ι' je σ' a' w'->a'.defers=a.defers->Q .normal a' w'):(Code.region id ops true).wpIn (Fence.wide.inRound q) n P Q a w:=by
 have dP:∃hidden u7,allM (lP P ops nt site0 true false (j3 ops) hidden) ops.toList 0=some u7/\vl=u7/\pI ops u7 (j3 ops)=true:=by
  unfold sP at h
  simp only[if_true,Bool.not_true,Bool.false_or]at h
  split at h
  ·rename_i u7 h'
   split at h
   ·rename_i uG;simp at h;exact⟨_,u7,h',h.symm,uG⟩
   ·cases h
  ·cases h
 obtain⟨hidden,u7,dP,rfl,uG⟩:=dP
 obtain⟨ta,T0⟩:=dC.drew
 obtain⟨hlen,_⟩:=pw dP
 have lR:vl.length=ops.size:=by rw[hlen];simp
 have FX:=y5 (X:=Sound P) (K:=K) (n:=σ.next) uG lR vl 0 (Array.replicate ops.size false) env σ.get (by simp) (by simp) (fun i hi=>by simp[hi]) (by simp[lR]) (fun k i h=>by
  exfalso
  rcases Nat.lt_or_ge k ops.size with hk|hk
  ·simp[hk]at h
  ·simp[Nat.not_lt.2 hk]at h) hv
 rw[lR]at FX
 have hw:=zM (Q:=fun e a w=>e=.normal/\Q .normal a w) dP ops.size _ env σ.get a w.drew D ι (fun _=>False) FX ta.uU ta.used (fun _ h=>h.elim) ta.env ta.size fun jA g1 a1 w1 D1 ι1 U1 hk T S1 Yh E1 w6 hd=>⟨rfl,hK jA ⟨g1,σ.next+1⟩ a1 w1 D1 ι1 hk (T0.trans T) ⟨S1,Yh.next,E1,w6⟩ hd⟩
 have fZ:=y6 (q:=q) (n:=n) (Q:=fun e a w=>e=.normal/\Q .normal a w) lk (by rintro⟨_,_,hc,_⟩;cases hc) ops.size _ a w.drew hw
 refine wpIn_mono (wpIn_region_any (id:=id) hm fZ) ?_
 rintro e a w ⟨rfl,h⟩
 exact h
end Go.Proofs.YtgoljkjaameagaaGreat.V

namespace Go.Proofs.YtgoljkjaameagaaGreat.V
open Go.RowKit Go.Shelf
attribute [local go_sem] Oper.semAt_some
structure qR (W:World) (v:Value) (l:List aa):Prop where
 sl:∃A c,v=.slice A l.length c/\(l.length<=c/\c<=maxLen)/\(l=[]∨∃b o,A=some ⟨b,o,none⟩/\∀i,i<l.length->W.cell? ⟨b,o+(i*3+0),none⟩=some (.int .i64 (aL l i).aJ.eE)/\W.cell? ⟨b,o+(i*3+1),none⟩=some (.int .i64 (aL l i).aJ.ez)/\W.cell? ⟨b,o+(i*3+2),none⟩=some (.int .i64 (aL l i).br))
structure KJ (K:World->World->Prop) (v:Value) (l:List aa):Prop where
 refl:∀W,K W W
 trans:∀{A B C:World},K A B->K B C->K A C
 of:∀{W W':World},Below W.heap.size W W'->K W W'
 size:∀{W W':World},K W W'->W.heap.size<=W'.heap.size
 typed:∀{W W':World},K W W'->∀(b:Nat) (cells:Array Value) (T:TypeId) (fr:Nat×Nat),W.heap[b]? =some (Obj.cells cells T fr)->T≠179->T≠254->W'.heap[b]? =W.heap[b]?
 pl:∀{W W':World},K W W'->qR W v l->qR W' v l
theorem wQ {W:World} {b x:Nat} {v:Value} (h:W.cell? ⟨b,x,none⟩=some v):b<W.heap.size:=by
 rcases Nat.lt_or_ge b W.heap.size with h1|h1
 ·exact h1
 ·simp[World.cell?,Array.getElem?_eq_none h1]at h
theorem qR.below {W W':World} {v:Value} {l:List aa} (h:qR W v l) (k:Below W.heap.size W W'):qR W' v l:=by
 obtain⟨A,c,rfl,hm,hc⟩:=h.sl
 refine⟨A,c,rfl,hm,?_⟩
 rcases hc with h0|⟨b,o,rfl,lh⟩
 ·exact .inl h0
 ·refine .inr ⟨b,o,rfl,fun i hi=>?_⟩
  obtain⟨h1,h2,h3⟩:=lh i hi
  have hb:=wQ h1
  exact⟨(k.cell (p:=⟨b,_,none⟩) hb).trans h1,(k.cell (p:=⟨b,_,none⟩) hb).trans h2,(k.cell (p:=⟨b,_,none⟩) hb).trans h3⟩
theorem qR.eV {P:Program} {W:World} {v:Value} {l:List aa} (h:qR W v l):kd P W (fun b=>b<W.heap.size) (.sl (l.map ab)) v:=by
 obtain⟨A,c,rfl,hm,hc⟩:=h.sl
 rcases hc with rfl|⟨b,o,rfl,lh⟩
 ·exact .CJ A c (by simpa using hm.2)
 by_cases N6:l=[]
 ·subst N6;exact .CJ _ c (by simpa using hm.2)
 ·have jO:0<l.length:=List.length_pos_iff.2 N6
  have hb:=wQ (lh 0 jO).1
  refine .sl (l.map ab) b o l.length c 3 (fun i j=>if j=0 then .int .i64 (aL l i).aJ.eE else if j=1 then .int .i64 (aL l i).aJ.ez else .int .i64 (aL l i).br) (by simp) hm.1 hm.2 hb (fun cs dx=>?_) (fun cs dx a ha=>?_) (fun i j hi hj=>?_) (fun i j cs a hi hj=>?_)
  ·obtain⟨x,_,rfl⟩:=List.mem_map.1 dx;rfl
  ·obtain⟨x,_,rfl⟩:=List.mem_map.1 dx
   simp[ab]at ha
   rcases ha with rfl|rfl|rfl<;>rfl
  ·obtain⟨h1,h2,h3⟩:=lh i hi
   match j,hj with
   |0,_=>exact h1
   |1,_=>exact h2
   |2,_=>exact h3
   |j+3,hj=>omega
  ·have mb:i<l.length:=by have:=(List.getElem?_eq_some_iff.1 hi).1;simpa using this
   rw[fF mb]at hi
   injection hi with hi
   subst hi
   match j,hj with
   |0,hj=>simp[ab]at hj;subst hj;exact .int _ _
   |1,hj=>simp[ab]at hj;subst hj;exact .int _ _
   |2,hj=>simp[ab]at hj;subst hj;exact .int _ _
   |j+3,hj=>simp[ab]at hj
theorem C8 {P:Program} (hm:P.follows .mixedOrders=true) {f:Nat} {args:List AV} {vs:Array Value} {w:World} {r:AV} (h:au P f args r) (hr:∀g r0,gF g 6 r0=some r->r0=r) (hA:fG P w (fun b=>b<w.heap.size) (fun _=>none) args vs):
  Calls P f vs w fun e w'=>∃D ι u,e=.returned u/\dd P w' D ι r u/\Below w.heap.size w w':=by
 have hs:=gS hm (h 0) w.heap.size (fun b=>b<w.heap.size) (fun _=>none) w vs ⟨Nat.le_refl _,fun _ h=>h,fun id r h=>(by cases h),fun id kE r r' B B' h=>(by cases h)⟩ (fun id h=>absurd rfl h) hA
 refine hs.mono ?_
 rintro e w' ⟨r0,g',n',D',ι',u,rfl,⟨r',hz,rfl⟩,dC,hsim,_,_,il⟩
 have:=hr _ _ hz
 subst this
 exact⟨D',ι',u,rfl,il,dC.below⟩
theorem pP {g:Rows} {n:Nat} {a:AV} {k:IntKind} {m:Int} (h:gF g (n+1) a=some (.int k m)):a=.int k m:=by
 cases a<;>rw[gF]at h<;>simp_all
 all_goals (repeat' (split at h))<;>simp_all
theorem FT {g:Rows} {a:AV} {x y:Int} (h:gF g 6 a=some (.agg [.int .i64 x,.int .i64 y])):a=.agg [.int .i64 x,.int .i64 y]:=by
 cases a with
 |agg cs=>
  rw[Br]at h
  simp only[Option.map_eq_some_iff,AV.agg.injEq,exists_eq_right]at h
  match cs,h with
  |[],h=>rw[cF]at h;simp at h
  |[a],h=>
   rw[bW,cF]at h
   cases ha:gF g 5 a<;>simp[ha]at h
  |[a,b],h=>
   rw[bW,bW,cF]at h
   cases ha:gF g 5 a<;>cases hb:gF g 5 b<;>simp[ha,hb]at h
   obtain⟨rfl,rfl⟩:=h
   rw[pP ha,pP hb]
  |a::b::c::r,h=>
   rw[bW,bW,bW]at h
   cases ha:gF g 5 a<;>cases hb:gF g 5 b<;>cases hc:gF g 5 c<;>cases hd:ep g 5 r<;>simp[ha,hb,hc,hd]at h
 |_=>rw[gF]at h<;>simp_all<;>(repeat' (split at h))<;>simp_all
theorem GY (W:World) (p:aq) (d:Int) (hd:iV d 0 3=true) (hx:iB p.eE) (hy:iB p.ez):Calls Tryz.prog 228 #[.agg #[.int .i64 p.eE,.int .i64 p.ez],.int .i64 d] W fun e W'=>e=.returned (.agg #[.int .i64 (bt p d).eE,.int .i64 (bt p d).ez])/\Below W.heap.size W W':=by
 refine(C8 mixed (G0 p d hd hx hy) (fun g r0 h=>FT h) ?_:Calls _ _ _ _ _).mono ?_
 ·exact nD (vs:= #[.int .i64 d]) (.agg _ _ (fun j=>if j=0 then .int .i64 p.eE else .int .i64 p.ez) rfl (fun a ha=>by simp[ae]at ha;rcases ha with rfl|rfl<;>rfl) (fun j hj=>by match j,hj with|0,_=>rfl|1,_=>rfl|j+2,hj=>simp[ae]at hj;omega) (fun j a ha=>by match j,ha with|0,ha=>simp[ae]at ha;subst ha;exact .int _ _|1,ha=>simp[ae]at ha;subst ha;exact .int _ _|j+2,ha=>simp[ae]at ha)) (nD (vs:= #[]) (.int _ _) yH)
 ·rintro e W' ⟨D,ι,u,rfl,hr,hB⟩
  refine⟨?_,hB⟩
  obtain⟨vs,f,rfl,fm,_,h1,h2⟩:=iY hr
  have v0:=h1 0 (by simp[ae])
  have v1:=h1 1 (by simp[ae])
  rw[dq (h2 0 _ rfl)]at v0
  rw[dq (h2 1 _ rfl)]at v1
  obtain⟨vl⟩:=vs
  match vl,fm with
  |[a,b],_=>
   simp at v0 v1
   rw[v0,v1]
theorem zF (W:World) (l:List aa) (v:Value) (hP:qR W v l) (p:aq) (hR:qS l) (R5:l.length<=1048576):Calls Tryz.prog 303 #[.agg #[v],.agg #[.int .i64 p.eE,.int .i64 p.ez]] W fun e W'=>e=.returned (.int .i64 (eG l p))/\Below W.heap.size W W':=by
 refine(C8 mixed (JT l p hR R5) (fun g r0 h=>pP h) ?_:Calls _ _ _ _ _).mono ?_
 ·exact nD (vs:= #[.agg #[.int .i64 p.eE,.int .i64 p.ez]]) (.agg _ _ (fun _=>v) rfl (fun a ha=>by simp at ha;rw[ha];rfl) (fun j hj=>by match j,hj with|0,_=>rfl|j+1,hj=>simp at hj) (fun j a ha=>by match j,ha with|0,ha=>simp at ha;subst ha;exact hP.eV|j+1,ha=>simp at ha)) (nD (vs:= #[]) (.agg _ _ (fun j=>if j=0 then .int .i64 p.eE else .int .i64 p.ez) rfl (fun a ha=>by simp[ae]at ha;rcases ha with rfl|rfl<;>rfl) (fun j hj=>by match j,hj with|0,_=>rfl|1,_=>rfl|j+2,hj=>simp[ae]at hj;omega) (fun j a ha=>by match j,ha with|0,ha=>simp[ae]at ha;subst ha;exact .int _ _|1,ha=>simp[ae]at ha;subst ha;exact .int _ _|j+2,ha=>simp[ae]at ha)) yH)
 ·rintro e W' ⟨D,ι,u,rfl,hr,hB⟩
  exact⟨by rw[dq hr],hB⟩
theorem grown_of {W W':World} (h:Below W.heap.size W W'):W.grownBy W' none:=⟨h.os,h.tape,h.output,h.size,fun k hk _=>h.block k hk⟩
def Er (l:List aa) (i:Nat) (d:Int):List (Nat×Nat×Int):=if 0<=eG l (bt (aL l i).aJ d)then[(i,(eG l (bt (aL l i).aJ d)).toNat,d)]else[]
def lU (l:List aa) (i m:Nat):List (Nat×Nat×Int):=(List.range m).flatMap fun j:Nat=>Er l i (1-(j:Int))
def mo (l:List aa) (n:Nat):List (Nat×Nat×Int):=(List.range n).flatMap fun i=>lU l i 2
theorem nB (l:List aa) (n:Nat):mo l (n+1)=mo l n++lU l n 2:=by simp[mo,List.range_succ]
theorem od (l:List aa) (i m:Nat):lU l i (m+1)=lU l i m++Er l i (1-(m:Int)):=by simp[lU,List.range_succ]
theorem Tf (l:List aa) {k m:Nat} (hk:k<l.length) (hm:m<=2):mo l k++lU l k m <+:mo l l.length:=by
 have h1:∀d,mo l k <+:mo l (k+d):=fun d=>by
  induction d with
  |zero=>exact List.prefix_refl _
  |succ d ih=>rw[<-Nat.add_assoc,nB l (k+d)];exact ih.trans (List.prefix_append _ _)
 have h2:∀d,mo l (k+1) <+:mo l (k+1+d):=fun d=>by
  induction d with
  |zero=>exact List.prefix_refl _
  |succ d ih=>rw[<-Nat.add_assoc,nB l (k+1+d)];exact ih.trans (List.prefix_append _ _)
 have h3:=h2 (l.length-(k+1))
 rw[show k+1+(l.length-(k+1))=l.length by omega,nB]at h3
 refine List.IsPrefix.trans ?_ h3
 have h4:lU l k m <+:lU l k 2:=by
  have:m=0∨m=1∨m=2:=ah
  rcases this with rfl|rfl|rfl
  ·exact List.nil_prefix
  ·rw[od l k 1];exact List.prefix_append _ _
  ·exact List.prefix_refl _
 exact(List.prefix_append_right_inj _).2 h4
def UL (l:List aa) (x:Nat×Nat×Int):Prop:=x.1<l.length/\x.2.1<l.length/\(0<=x.2.2/\x.2.2<=1)
def Hy (x:Nat×Nat×Int):Array Value:= #[.agg #[.int .i64 (x.1:Int),.int .i64 (x.2.1:Int)],.int .i64 x.2.2]
theorem Po (l:List aa) (p:aq) (h:0<l.length:=by omega):eG l p<(l.length:Int):=by
 unfold eG
 split<;>omega
theorem Wp (l:List aa) (hA:lg l) (q Ba:Nat) (vS:Value) (K:World->World->Prop) (kl:KJ K vS l) (J Jx:List (Nat×Nat×Int)->World->Prop) (n:Nat) (hn:1<=n)
  (hY:∀pre x W,J pre W->pre.length<(mo l l.length).length->UL l x->YieldAt Fence.wide (n-1) Tryz.prog q (Hy x) W fun e W'=>
   (e=.returned (.bool true)/\J (pre++[x]) W'/\K W W')∨(e=.returned (.bool false)/\Jx (pre++[x]) W'))
  (W:World) (hJ:AbidesFrom W.heap.size J) (R8:W.heap[Ba]? =some (.cells #[vS] 42 (0,0))) (hP:qR W vS l) (h0:J [] W):
  CallsIn Fence.wide n Tryz.prog 302 #[.func (.yield q) #[] #[],.pointer (some ⟨Ba,0,none⟩)] W fun e W'=>(∃v,e=.returned v)/\
   ((∃ys,ys=mo l l.length/\J ys W')∨(∃pre,pre <+:mo l l.length/\Jx pre W')):=by
 obtain⟨A,cp,rfl,_,_⟩:=hP.sl
 refine callsIn_of_wp Tryz.func302 rfl trivial ?_ rfl
 simp only[Tryz.ntmps302,List.size_toArray,List.length_cons,List.length_nil,Nat.reduceAdd,Nat.reduceSub,Array.replicate_succ,Array.replicate_zero,List.push_toArray,List.append_toArray,List.nil_append,List.cons_append]
 have kb:W.cell? ⟨Ba,0,none⟩=some (.slice A l.length cp):=by simp[World.cell?,R8]
 gi_wp2
 gi_loopw [11] (fun i wr=>∃k:Nat,k<=l.length/\i=.int .i64 k/\J (mo l k) wr/\K W wr)
  (fun i _=>l.length-(intOf i).toNat)
 case atStart=>exact⟨0,Nat.zero_le _,rfl,h0,kl.refl _⟩
 case round=>
  obtain⟨k,hk,rfl,Vh,hKt⟩:=hrel
  by_cases ei:k<l.length
  ·have dx:∃b o,A=some ⟨b,o,none⟩/\wr.cell? ⟨b,o+k*3,none⟩=some (.int .i64 (aL l k).aJ.eE)/\wr.cell? ⟨b,o+k*3+1,none⟩=some (.int .i64 (aL l k).aJ.ez)/\wr.cell? ⟨b,o+k*3+2,none⟩=some (.int .i64 (aL l k).br):=by
    obtain⟨A',c',hv,_,hc⟩:=(kl.pl hKt hP).sl
    cases hv
    rcases hc with rfl|⟨b,o,rfl,lh⟩
    ·simp at ei
    ·obtain⟨h1,h2,h3⟩:=lh k ei
     exact⟨b,o,rfl,by simpa using h1,by rw[Nat.add_assoc];exact h2,by rw[Nat.add_assoc];exact h3⟩
   obtain⟨b,o,rfl,hx,XY,ht⟩:=dx
   gi_wp2
   obtain⟨W2,Vp⟩:∃W2,(wr.alloc (.cells #[.int .i64 (aL l k).aJ.eE,.int .i64 (aL l k).aJ.ez,.int .i64 (aL l k).br] 171)).alloc (.cells #[.int .i64 1,.int .i64 0] 2)=W2:=⟨_,rfl⟩
   have qU:Below wr.heap.size wr W2:=by rw[<-Vp];exact((Below.refl _ wr).alloc (Nat.le_refl _) _).alloc (by simp) _
   have YX:W2.heap[wr.heap.size]? =some (.cells #[.int .i64 (aL l k).aJ.eE,.int .i64 (aL l k).aJ.ez,.int .i64 (aL l k).br] 171 (0,0)):=by
    rw[<-Vp,Below.heap_alloc _ _ _ (by simp)];exact World.alloc_heap_new _ _
   have YW:W2.heap[wr.heap.size+1]? =some (.cells #[.int .i64 1,.int .i64 0] 2 (0,0)):=by
    have:=World.alloc_heap_new (wr.alloc (.cells #[.int .i64 (aL l k).aJ.eE,.int .i64 (aL l k).aJ.ez,.int .i64 (aL l k).br] 171)) (.cells #[.int .i64 1,.int .i64 0] 2)
    rw[World.size_alloc]at this
    rw[<-Vp];exact this
   have Sg:K W W2:=kl.trans hKt (kl.of qU)
   have Y3:J (mo l k++lU l k 0) W2:=by
    have:=hJ _ _ _ none Vh (grown_of qU) (fun r h=>by cases h)
    simpa[lU]using this
   rw[Vp]
   clear Vp
   generalize wr=w1 at *
   gi_loopw [18] (fun j wr=>∃m:Nat,m<=2/\j=.int .i64 m/\J (mo l k++lU l k m) wr/\K W2 wr)
    (fun j _=>2-(intOf j).toNat)
   case atStart=>exact⟨0,ah,rfl,Y3,kl.refl _⟩
   case round=>
    obtain⟨m,hm,rfl,hJm,QF⟩:=hrel
    have Zy:m=0∨m=1∨m=2:=ah
    by_cases QT:m<2
    ·have hkd:=kl.typed QF _ _ _ _ YW (by decide) (by decide)
     have O4:=kl.typed QF _ _ _ _ YX (by decide) (by decide)
     have hka:=kl.typed (kl.trans Sg QF) _ _ _ _ R8 (by decide) (by decide)
     have cd:wr.cell? ⟨w1.heap.size+1,m,none⟩=some (.int .i64 (1-(m:Int))):=by
      rw[World.cell?_of_block hkd]
      rcases Zy with rfl|rfl|rfl
      ·simp[World.cell?,YW]
      ·simp[World.cell?,YW]
      ·omega
     have ct0:wr.cell? ⟨w1.heap.size,0,none⟩=some (.int .i64 (aL l k).aJ.eE):=by rw[World.cell?_of_block O4];simp[World.cell?,YX]
     have ct1:wr.cell? ⟨w1.heap.size,1,none⟩=some (.int .i64 (aL l k).aJ.ez):=by rw[World.cell?_of_block O4];simp[World.cell?,YX]
     have ca:wr.cell? ⟨Ba,0,none⟩=some (.slice (some ⟨b,o,none⟩) l.length cp):=by rw[World.cell?_of_block hka];simp[World.cell?,R8]
     have hPw:qR wr (.slice (some ⟨b,o,none⟩) l.length cp) l:=kl.pl (kl.trans Sg QF) hP
     have hba:Ba<wr.heap.size:=by
      have h1:=(Array.getElem?_eq_some_iff.1 R8).1
      have h2:=kl.size (kl.trans Sg QF)
      omega
     have hdm:iV (1-(m:Int)) 0 3=true:=jm ah
     have QV:=sf (hA.pt ei)
     have Ut:=fun w0=>GY w0 (aL l k).aJ (1-(m:Int)) hdm QV.1 QV.2
     have hPd:qR wr.drew (.slice (some ⟨b,o,none⟩) l.length cp) l:=hPw.below ⟨rfl,rfl,rfl,Nat.le_refl _,fun _ _=>rfl⟩
     have cad:wr.drew.cell? ⟨Ba,0,none⟩=some (.slice (some ⟨b,o,none⟩) l.length cp):=ca
     have ctd0:wr.drew.cell? ⟨w1.heap.size,0,none⟩=some (.int .i64 (aL l k).aJ.eE):=ct0
     have ctd1:wr.drew.cell? ⟨w1.heap.size,1,none⟩=some (.int .i64 (aL l k).aJ.ez):=ct1
     have hfw:=hA.zm
     have VM:=hA.P8
     have ZA:=mixed
     gi_wp2
     gi_region_with_o (first|(refine⟨trivial,?_⟩;gi_at_call 228;refine(callsIn_wide.2 (Ut _)).mono ?_;rintro e w3 ⟨rfl,Dz⟩;have ca3:=(Dz.cell (p:=⟨Ba,0,none⟩) hba).trans cad)|(refine⟨trivial,?_⟩;gi_at_call 303;refine(callsIn_wide.2 (zF _ l _ (hPd.below Dz) (bt (aL l k).aJ (1-(m:Int))) VM ah)).mono ?_;rintro e w4 ⟨rfl,hB4⟩))
     all_goals
      have R7:Below wr.heap.size wr w4:=(show Below wr.heap.size wr wr.drew from⟨rfl,rfl,rfl,Nat.le_refl _,fun _ _=>rfl⟩).trans (Dz.trans (hB4.mono Dz.size))
      have hJ4:J (mo l k++lU l k m) w4:=hJ _ _ _ none hJm (grown_of R7) (fun r h=>by cases h)
      have zu:=Tf l ei (m:=m+1) ah
      rw[od,<-List.append_assoc]at zu
      have qx:=od l k m
      have hw:wrap64 ((m:Int)+1)=((m+1:Nat):Int):=by unfold wrap64;omega
      by_cases BB:0<=eG l (bt (aL l k).aJ (1-(m:Int)))
      ·have fZ:((eG l (bt (aL l k).aJ (1-(m:Int)))).toNat:Int)=eG l (bt (aL l k).aJ (1-(m:Int))):=ah
       rw[Er,if_pos BB]at zu qx
       obtain⟨fn,tmps,assign,body,hy,hR⟩:=hY _ (k,(eG l (bt (aL l k).aJ (1-(m:Int)))).toNat,1-(m:Int)) w4 hJ4 (by
        have:=zu.length_le
        simp only[List.length_append,List.length_cons,List.length_nil]at this ⊢
        omega) ⟨ei,by
        have:eG l (bt (aL l k).aJ (1-(m:Int)))<(l.length:Int):=Po _ _
        show(eG l (bt (aL l k).aJ (1-(m:Int)))).toNat<l.length
        omega,by show 0<=1-(m:Int);omega,by show 1-(m:Int)<=1;omega⟩
       simp only[Hy,fZ]at hy
       gi_wp2
       refine hR.mono ?_
       rintro e W3 (⟨rfl,hJ3,N3⟩|⟨rfl,hJx3⟩)
       ·gi_wp2
        go_roundw
        case rel=>exact⟨m+1,ah,by simp,by rw[qx,<-List.append_assoc];exact hJ3,kl.trans (kl.trans QF (kl.of R7)) N3⟩
        case measure=>simp[intOf];omega
       ·gi_wp2
        refine bodyPost_ret (results_none rfl _ _ _) rfl ?_
        exact⟨⟨_,rfl⟩,.inr ⟨_,zu,hJx3⟩⟩
      ·rw[Er,if_neg BB,List.append_nil]at qx
       gi_wp2
       refine⟨fun _ h=>(by cases h),?_⟩
       gi_wp2
       go_roundw
       case rel=>exact⟨m+1,ah,by simp,by rw[qx];exact hJ4,kl.trans QF (kl.of R7)⟩
       case measure=>simp[intOf];omega
    ·obtain rfl:m=2:=ah
     have hfw:=hA.zm
     gi_wp2
     go_roundw
     case rel=>exact⟨k+1,ah,by simp,by rw[nB];exact hJm,kl.trans Sg QF⟩
     case measure=>simp[intOf];omega
  ·obtain rfl:k=l.length:=ah
   gi_wp2
   go_end0
   exact⟨⟨_,rfl⟩,.inl ⟨_,rfl,Vh⟩⟩
theorem BW (n:Nat) (vS:Value) (w:World):CallsIn Fence.wide n Tryz.prog 260 #[.agg #[vS]] w fun e w'=>e=.returned (.func (.func 302) #[] #[.pointer (some ⟨w.heap.size,0,none⟩)])/\w'=w.alloc (.cells #[vS] 42):=by
 refine callsIn_of_wp Tryz.func260 rfl trivial ?_ rfl
 simp only[Tryz.ntmps260,List.size_toArray,List.length_cons,List.length_nil,Nat.reduceAdd,Nat.reduceSub,Array.replicate_succ,Array.replicate_zero,List.push_toArray,List.append_toArray,List.nil_append,List.cons_append]
 gi_wp2
 go_ret
 exact⟨rfl,rfl⟩
abbrev Rm (l:List aa):Type:={x:Nat×Nat×Int // UL l x}
theorem Mz (l:List aa) (hA:lg l) (Ba n:Nat) (hn:1<=n) (vS:Value) (K:World->World->Prop) (kl:KJ K vS l) (w:World) (R8:w.heap[Ba]? =some (.cells #[vS] 42 (0,0))) (hP:qR w vS l):
  SeqStopsK Fence.wide n Tryz.prog 302 #[.pointer (some ⟨Ba,0,none⟩)] (fun x:Rm l=>Hy x.1) K (fun ys=>ys.map (·.1)=mo l l.length) (fun _=>True) (mo l l.length).length w:=fun q J Jx W hW hJ _ hY h0=>by
 refine(Wp l hA q Ba vS K kl (fun ys W=>∃zs:List (Rm l),zs.map (·.1)=ys/\J zs W) (fun ys W=>∃zs:List (Rm l),zs.map (·.1)=ys/\Jx zs W) n hn (fun pre x W1 Y2 ei uG=>?_) W (fun s A B row ⟨zs,e,h⟩ hg hr=>⟨zs,e,hJ zs A B row h hg hr⟩) ((hW.block Ba (Array.getElem?_eq_some_iff.1 R8).1).trans R8) (hP.below hW) ⟨[],rfl,h0⟩).mono ?_
 ·obtain⟨zs,rfl,h1⟩:=Y2
  refine YieldAt.mono (hY zs ⟨x,uG⟩ W1 h1 (by simpa using ei)) ?_
  rintro e W' (⟨h2,h3,h4⟩|⟨h2,h3⟩)
  ·exact .inl ⟨h2,⟨zs++[⟨x,uG⟩],by simp,h3⟩,h4⟩
  ·exact .inr ⟨h2,⟨zs++[⟨x,uG⟩],by simp,h3⟩⟩
 ·rintro e W' ⟨h1,⟨ys,rfl,zs,h2,h3⟩|⟨pre,_,zs,h2,h3⟩⟩
  ·exact⟨h1,.inl ⟨zs,h2,h3⟩⟩
  ·exact⟨h1,.inr ⟨zs,trivial,h3⟩⟩
def Bc (s:ax) (l:List aa) (x:Nat×Nat×Int):List PB:=if 0<iH s (aL l x.1).br x.2.2 (aL l x.2.1).br then[⟨x.1,x.2.1,iH s (aL l x.1).br x.2.2 (aL l x.2.1).br⟩]else[]
theorem K9 (s:ax) (l:List aa):de s l=(mo l l.length).flatMap (Bc s l):=by
 have h1:∀i d,nS s l i d=(Er l i d).flatMap (Bc s l):=fun i d=>by
  unfold nS Er
  by_cases h:0<=eG l (bt (aL l i).aJ d)
  ·rw[if_pos h]
   simp only[List.flatMap_cons,List.flatMap_nil,List.append_nil,Bc]
   by_cases h2:0<iH s (aL l i).br d (aL l (eG l (bt (aL l i).aJ d)).toNat).br
   ·rw[if_pos ⟨h,h2⟩,if_pos h2]
   ·rw[if_neg fun hc=>h2 hc.2,if_neg h2]
  ·rw[if_neg h,if_neg fun hc=>h hc.1];rfl
 unfold de iv mo
 rw[List.flatMap_assoc]
 congr 1
 funext i
 unfold gL lU
 rw[List.flatMap_assoc]
 congr 1
 funext j
 exact h1 i _
section
variable {F:Fence} {n:Nat} {P:Program} {ops:Array Oper} {Q:Exit->Act->World->Prop} {rest:List Oper} {a:Act} {w:World} {o:Oper}
theorem Hi (hg:o.guard=none) (m:Operand) (t:TypeId) (ej:o.op=Op.range t m) {v:Value} {w':World} (fP:(Instr.range t (a.eval m)).run P w=.ok v w') (h:wpListIn F n P ops Q rest (a.put o.dst v) w'):wpListIn F n P ops Q (o::rest) a w:=by
 refine wpListIn_plain hg fun K' Xn=>?_
 unfold Oper.wpIn
 refine⟨by simp[Oper.about,ej],?_⟩
 rw[Oper.semAt_plain F _ _ (by rw[ej];intro c k7;cases k7)]
 simp[execOp,ej,fP,Result.andThen]
 exact Xn _ _ h
theorem Kp (hg:o.guard=none) (it:Operand) (ej:o.op=Op.next it false) (rr b clock:Nat) (seen:Array Nat) (es:Array MapEntry) (Kx:a.eval it=.pointer (some ⟨rr,0,none⟩)) (hr:w.heap[rr]? =some (.mapIter (some b) clock seen clock)) (hb:w.heap[b]? =some (.map es clock)) (dC:Hn es clock)
  (Vd:(leftOf es seen).toList=[]->wpListIn F n P ops Q rest (a.put o.dst (.tuple #[.bool false])) w)
  (Vj:∀e∈(leftOf es seen).toList,∀w',w'.heap[rr]? =some (.mapIter (some b) clock (seen.push e.born) clock)->w'.heap[b]? =some (.map es clock)->w.grownBy w' (some rr)->w'.heap.size=w.heap.size->(Instr.entry (.pointer (some ⟨rr,0,none⟩))).run P w'=.ok (.tuple #[e.key,e.val]) w'->wpListIn F n P ops Q rest (a.put o.dst (.tuple #[.bool true,e.key,e.val])) w'):
  wpListIn F n P ops Q (o::rest) a w:=by
 refine wpListIn_plain hg fun K' Xn=>?_
 unfold Oper.wpIn
 refine⟨by simp[Oper.about,ej],?_⟩
 rw[Oper.semAt_plain F _ _ (by rw[ej];intro c k7;cases k7)]
 rcases run_next_at (P:=P) w o.type rr b clock clock seen es clock hr hb dC.1 (Nat.le_refl _)with⟨h0,fP⟩|⟨e,he,w1,jt,fP⟩
 ·simp[execOp,ej,Kx,fP,Result.andThen]
  exact Xn _ _ (Vd (List.eq_nil_of_length_eq_zero (by simpa using h0)))
 ·have DO:w1.heap[rr]? =some (.mapIter (some b) clock seen clock):=by rcases jt with rfl|rfl<;>exact hr
  have eb:=MapKept.heap_set (o':=.mapIter (some b) clock (seen.push e.born) clock) DO
  obtain⟨w2,ml⟩:∃w2,ChangeMaps.setBlock w1 rr (.mapIter (some b) clock (seen.push e.born) clock)=w2:=⟨_,rfl⟩
  have ho:∀k,k≠rr->w2.heap[k]? =w.heap[k]? :=fun k hk=>by
   rw[<-ml]
   refine(eb.2 k hk).trans ?_
   rcases jt with rfl|rfl<;>rfl
  have hz:w2.heap.size=w.heap.size:=by
   rw[<-ml]
   rcases jt with rfl|rfl<;>simp[ChangeMaps.setBlock]
  have za:w2.heap[rr]? =some (.mapIter (some b) clock (seen.push e.born) clock):=by rw[<-ml];exact eb.1
  have wJ:w2.os=w.os/\w2.tape=w.tape/\w2.output=w.output:=by
   rw[<-ml]
   rcases jt with rfl|rfl<;>exact⟨rfl,rfl,rfl⟩
  have Zc:b≠rr:=fun e=>by subst e;rw[hr]at hb;cases hb
  have Ab:w2.heap[b]? =some (.map es clock):=(ho b Zc).trans hb
  have DG:=run_entry_at (P:=P) w2 rr b clock seen es clock e za Ab (mem_left he).1 dC.2
  rw[ml]at fP
  simp[execOp,ej,Kx,fP,Result.andThen]
  exact Xn _ _ (Vj e he w2 za Ab ⟨wJ.1,wJ.2.1,wJ.2.2,ah,fun k _ hk=>ho k fun e=>hk (by rw[e])⟩ hz DG)
end
def sV (p:aq):Value:=.agg #[.int .i64 p.eE,.int .i64 p.ez]
def Gr (es:Array MapEntry) (rr:Nat) (w:World):Nat:=match w.heap[rr]? with
 |some (.mapIter _ _ seen _)=>(leftOf es seen).size
 |_=>0
theorem Au {es:Array MapEntry} {rr b clock:Nat} {seen:Array Nat} {w:World} (h:w.heap[rr]? =some (.mapIter (some b) clock seen clock)):Gr es rr w=(leftOf es seen).size:=by unfold Gr;rw[h]
theorem Jz {es:Array MapEntry} {clock:Nat} {seen:Array Nat} {e:MapEntry} (hs:Hn es clock) (he:e∈(leftOf es seen).toList):((e.key::(leftOf es (seen.push e.born)).toList.map (·.key)).Perm ((leftOf es seen).toList.map (·.key)))/\(leftOf es (seen.push e.born)).size+1=(leftOf es seen).size:=by
 obtain⟨i,hi,F8⟩:=List.getElem_of_mem he
 have h2:=x7 hs (i:=i) (e:=e) (seen:=seen) (by rw[List.getElem?_eq_getElem hi,F8])
 have hp:=se (l:=(leftOf es seen).toList) (i:=i) (x:=e) (by rw[List.getElem?_eq_getElem hi,F8])
 rw[h2]
 refine⟨by simpa using hp.map fun e:MapEntry=>e.key,?_⟩
 have h3:=congrArg List.length h2
 have h4:=hp.length_eq
 simp only[Array.length_toList,List.length_cons]at h3 h4
 rw[<-h3]at h4;exact h4
theorem IM {a b:List aq} (h:(a.map sV).Perm (b.map sV)):a.Perm b:=by
 have h2:=h.map (fun v:Value=>match v with| .agg ⟨[.int _ x,.int _ y]⟩=>(⟨x,y⟩:aq)|_=>⟨0,0⟩)
 simpa[List.map_map,Function.comp_def,sV]using h2
theorem Mh (q Bm b:Nat) (es:Array MapEntry) (clock:Nat) (dC:Hn es clock) (ks:List aq) (hk:es.toList.map (·.key)=ks.map sV) (J Jx:List aq->World->Prop) (n:Nat) (hn:1<=n)
  (hY:∀pre x W,J pre W->pre.length<ks.length->YieldAt Fence.wide (n-1) Tryz.prog q #[sV x] W fun e W'=>
   (e=.returned (.bool true)/\J (pre++[x]) W'/\KeepsWalks W W')∨(e=.returned (.bool false)/\Jx (pre++[x]) W'))
  (W:World) (hJ:AbidesFrom W.heap.size J) (hm:W.cell? ⟨Bm,0,none⟩=some (.map (some b))) (hb:W.heap[b]? =some (.map es clock)) (h0:J [] W):
  CallsIn Fence.wide n Tryz.prog 232 #[.func (.yield q) #[] #[],.pointer (some ⟨Bm,0,none⟩)] W fun e W'=>(∃v,e=.returned v)/\
   ((∃ss:List aq,ss.Perm ks/\J ss W')∨(∃pre,Jx pre W')):=by
 refine callsIn_of_wp Tryz.func232 rfl trivial ?_ rfl
 simp only[Tryz.ntmps232,List.size_toArray,List.length_cons,List.length_nil,Nat.reduceAdd,Nat.reduceSub,Array.replicate_succ,Array.replicate_zero,List.push_toArray,List.append_toArray,List.nil_append,List.cons_append]
 have hrg:=fun(wx:World) (h:wx.heap[b]? =some (.map es clock))=>run_range_map (P:=Tryz.prog) wx 149 _ _ b es clock Tryz.underlying149 h
 gi_wp2_with (first
  |(refine Hi rfl _ _ rfl (hrg _ hb) ?_)
  |gi_in)
 have nW:b<W.heap.size:=(Array.getElem?_eq_some_iff.1 hb).1
 have Y2:J [] (W.alloc (.mapIter (some b) clock #[] clock)):=hJ _ _ _ none h0 (grown_of ((Below.refl _ W).alloc (Nat.le_refl _) _)) (fun r h=>by cases h)
 have DO:(W.alloc (.mapIter (some b) clock #[] clock)).heap[W.heap.size]? =some (.mapIter (some b) clock #[] clock):=World.alloc_heap_new _ _
 have Kv:(W.alloc (.mapIter (some b) clock #[] clock)).heap[b]? =some (.map es clock):=(Below.heap_alloc _ _ _ nW).trans hb
 go_frame
 gi_loopw [3] (fun _ wr=>∃(seen:Array Nat) (ss:List aq),wr.heap[W.heap.size]? =some (.mapIter (some b) clock seen clock)/\wr.heap[b]? =some (.map es clock)/\(ss.map sV++(leftOf es seen).toList.map (·.key)).Perm (ks.map sV)/\J ss wr)
  (fun _ wr=>Gr es W.heap.size wr)
 case atStart=>
  exact⟨#[],[],DO,Kv,by rw[<-hk,show(leftOf es #[]).toList=es.toList by simp[leftOf]];exact List.Perm.refl _,Y2⟩
 case round=>
  obtain⟨seen,ss,hr,Zc,hp,Vh⟩:=hrel
  gi_wp2_with (first
   |(refine Kp rfl _ rfl W.heap.size b clock seen es rfl hr Zc dC ?_ ?_)
   |gi_in)
  ·intro N6
   gi_wp2
   go_end0
   rw[N6]at hp
   exact⟨⟨_,rfl⟩,.inl ⟨ss,IM (by simpa using hp),Vh⟩⟩
  ·intro e he0 w2 za Ab Sq jP DG
   have he:e∈(leftOf es seen).toList:=by simpa using he0
   obtain⟨zt,ei⟩:=Jz dC he
   obtain⟨x,hx⟩:∃x,e.key=sV x:=by
    have h1:e.key∈es.toList.map (·.key):=List.mem_map_of_mem (mem_left he).1
    rw[hk]at h1
    obtain⟨x,_,hx⟩:=List.mem_map.1 h1
    exact⟨x,hx.symm⟩
   have Y3:J ss w2:=hJ ss wr w2 (some W.heap.size) Vh Sq (fun r e=>by cases e;exact⟨Nat.le_refl _,_,hr,rfl⟩)
   have hlen:ss.length<ks.length:=by
    have h1:=hp.length_eq
    have h2:0<(leftOf es seen).toList.length:=List.length_pos_of_mem he
    simp only[List.length_append,List.length_map]at h1
    omega
   obtain⟨fn,tmps,assign,body,hy,hR⟩:=hY ss x (w2.alloc (.cells #[.int .i64 x.eE,.int .i64 x.ez] 123)) (hJ _ _ _ none Y3 (grown_of ((Below.refl _ w2).alloc (Nat.le_refl _) _)) (fun r h=>by cases h)) hlen
   rw[hx]at DG ⊢
   simp only[sV]at DG hy ⊢
   gi_wp2
   refine hR.mono ?_
   rintro e3 W3 (⟨rfl,hJ3,N3⟩|⟨rfl,hJx3⟩)
   ·gi_wp2
    have LH:=KeepsWalks.alloc w2 (.cells #[.int .i64 x.eE,.int .i64 x.ez] 123)
    have hr3:=N3.same _ _ (LH.same _ _ za rfl) rfl
    have hb3:=N3.same _ _ (LH.same _ _ Ab rfl) rfl
    go_roundw
    case rel=>
     refine⟨_,ss++[x],hr3,hb3,?_,hJ3⟩
     rw[List.map_append,List.append_assoc]
     refine List.Perm.trans ?_ hp
     rw[hx]at zt
     exact zt.append_left _
    case measure=>rw[Au hr3,Au hr];omega
   ·gi_wp2
    refine bodyPost_ret (results_none rfl _ _ _) rfl ?_
    exact⟨⟨_,rfl⟩,.inr ⟨_,hJx3⟩⟩
theorem Gl (Bm b:Nat) (es:Array MapEntry) (clock:Nat) (dC:Hn es clock) (ks:List aq) (hk:es.toList.map (·.key)=ks.map sV) (n:Nat) (hn:1<=n) (w:World) (YL:Bm<w.heap.size) (hm:w.cell? ⟨Bm,0,none⟩=some (.map (some b))) (hb:w.heap[b]? =some (.map es clock)):
  SeqStopsK Fence.wide n Tryz.prog 232 #[.pointer (some ⟨Bm,0,none⟩)] (fun x:aq=> #[sV x]) KeepsWalks (fun ss=>ss.Perm ks) (fun _=>True) ks.length w:=fun q J Jx W hW hJ _ hY h0=>by
 refine(Mh q Bm b es clock dC ks hk J Jx n hn hY W hJ ((hW.cell (p:=⟨Bm,0,none⟩) YL).trans hm) ((hW.block b (Array.getElem?_eq_some_iff.1 hb).1).trans hb) h0).mono ?_
 rintro e W' ⟨h1,⟨ss,h2,h3⟩|⟨pre,h3⟩⟩
 ·exact⟨h1,.inl ⟨ss,h2,h3⟩⟩
 ·exact⟨h1,.inr ⟨pre,trivial,h3⟩⟩
def Q8 (ps:List aq):List Value:=ps.flatMap fun p=>[.int .i64 p.eE,.int .i64 p.ez]
theorem MO (ps:List aq) (p:aq):Q8 (ps++[p])=Q8 ps++[.int .i64 p.eE,.int .i64 p.ez]:=by simp[Q8]
theorem PX {ps:List aq} {i j:Nat} {p:aq} (h:ps[i]? =some p) (hj:j<2):(Q8 ps)[i*2+j]? =([.int .i64 p.eE,.int .i64 p.ez]:List Value)[j]? :=by
 induction ps generalizing i with
 |nil=>simp at h
 |cons q r ih=>
  cases i with
  |zero=>
   simp at h;subst h
   match j,hj with
   |0,_=>rfl
   |1,_=>rfl
  |succ i=>
   simp only[List.getElem?_cons_succ]at h
   have:=ih h
   have e:(i+1)*2+j=i*2+j+2:=ah
   rw[e]
   simpa[Q8]using this
theorem cell_two_new (W:World) (T:TypeId) (x y:Value):∀(j:Nat) (u:Value),[x,y][j]? =some u->(W.alloc (.cells #[x,y] T)).cell? ((⟨W.heap.size,0,none⟩:Addr).add j)=some u:=fun j u h=>by
 have hb:(W.alloc (.cells #[x,y] T)).heap[W.heap.size]? =some (.cells #[x,y] T (0,0)):=World.alloc_heap_new _ _
 have e:∀k,(W.alloc (.cells #[x,y] T)).cell? ⟨W.heap.size,k,none⟩=(#[x,y]:Array Value)[k]? :=fun k=>by
  unfold World.cell?
  rw[show(W.alloc (.cells #[x,y] T)).heap[(⟨W.heap.size,k,none⟩:Addr).block]? = _ from hb]
  rfl
 rw[show(⟨W.heap.size,0,none⟩:Addr).add j=⟨W.heap.size,j,none⟩ by simp[Addr.add];exact fun h=>h.symm,e]
 simpa using h
theorem S3:(Tryz.prog.info? 123).map (fun i=>(i.zero,i.size,i.bytes))=some (some (.agg #[.int .i64 0,.int .i64 0]),2,16):=by kernel_rfl
theorem I8 {β:Type} (B:Nat) (c:Array Value) (t:TypeId) (fr:Nat×Nat):Own (fun(_:β) W=>W.heap[B]? =some (.cells c t fr)):=fun _ X _ row h hg hr=>(hg.block B (Array.getElem?_eq_some_iff.1 h).1 (fun e=>by
 obtain⟨o,ho,hc⟩:=hr B e.symm
 rw[h]at ho;cases ho;cases hc)).trans h
theorem A6 (Bm b:Nat) (es:Array MapEntry) (clock:Nat) (dC:Hn es clock) (ks:List aq) (hk:es.toList.map (·.key)=ks.map sV) (hl:ks.length<=1000000) (w:World) (YL:Bm<w.heap.size) (hm:w.cell? ⟨Bm,0,none⟩=some (.map (some b))) (hb:w.heap[b]? =some (.map es clock)):
  CallsIn Fence.wide 5 Tryz.prog 282 #[.slice none 0 0,.func (.func 232) #[] #[.pointer (some ⟨Bm,0,none⟩)]] w fun e W'=>∃(ss:List aq) (v:Value),ss.Perm ks/\e=.returned v/\W'.ownsRow w.heap.size 123 2 v ss.length (Q8 ss)/\(v=.slice none 0 0↔ss=[])/\Below w.heap.size w W':=by
 obtain⟨i0,hi,HR,w6,jP⟩:=info_parts S3
 refine callsIn_of_wp_marks Tryz.func282 rfl trivial ?_ rfl
 simp only[Tryz.ntmps282,List.size_toArray,List.length_cons,List.length_nil,Nat.reduceAdd,Nat.reduceSub,Array.replicate_succ,Array.replicate_zero,List.push_toArray,List.append_toArray,List.nil_append,List.cons_append]
 gi_wp2
 have bO:=Boxed.new w 89 (.slice none 0 0)
 have y7:Below w.heap.size w (w.alloc (.cells #[.slice none 0 0] 89)):=(Below.refl _ w).alloc (Nat.le_refl _) _
 have fm:(w.alloc (.cells #[.slice none 0 0] 89)).heap.size=w.heap.size+1:=by simp
 obtain⟨W0,Vo⟩:∃W0,w.alloc (.cells #[.slice none 0 0] 89)=W0:=⟨_,rfl⟩
 rw[Vo]at bO y7 fm ⊢
 clear Vo
 have Zy:W0.cell? ⟨Bm,0,none⟩=some (.map (some b)):=(y7.cell (p:=⟨Bm,0,none⟩) YL).trans hm
 have F0:=(y7.block b (Array.getElem?_eq_some_iff.1 hb).1).trans hb
 refine wpIn_rangeFunc_ownH (n:=5) rfl ah (gf:=232) (lb:= #[.pointer (some ⟨Bm,0,none⟩)]) rfl trivial (enters_of Tryz.func232 (by kernel_rfl) rfl)
  (Gl Bm b es clock dC ks hk (5-1) ah W0 ah Zy F0) walksK_t (walksK_b (w:=W0)) (Below.refl _ _) (fun _=>rfl)
  (fun pre W=>(∃v,Boxed W w.heap.size 89 v/\W.ownsRow w.heap.size 123 2 v pre.length (Q8 pre)/\(v=.slice none 0 0↔pre=[]))/\Below w.heap.size w W)
  (fun _ _ _=>False)
  (OwnFrom.and (Own.from (holdsRow_own w.heap.size w.heap.size 89 123 2 (fun pre=>pre.length) (fun pre=>Q8 pre) (fun pre v=>v=.slice none 0 0↔pre=[])) _) (ownFrom_below (Nat.le_refl _) ah))
  (fun _ _ _ _ _ hs _ _=>hs)
  ⟨⟨_,bO,World.ownsRow_nil _ _ _ _,by simp⟩,y7⟩
  (fun x a' W=>∃Bx,w.heap.size<Bx/\W.heap[Bx]? =some (.cells #[.int .i64 x.eE,.int .i64 x.ez] 123 (0,0))/\a'={tmps:= #[.slice none 0 0,.func (.func 232) #[] #[.pointer (some ⟨Bm,0,none⟩)],.pointer (some ⟨w.heap.size,0,none⟩),undef,.slice none 0 0,.pointer (some ⟨Bx,0,none⟩),.func (.func 232) #[] #[.pointer (some ⟨Bm,0,none⟩)],.agg #[.int .i64 x.eE,.int .i64 x.ez],undef,undef,undef,undef,undef],defers:=[]})
  (fun x a' _ X Y row hs hg hr=>by obtain⟨Bx,h1,h2,h3⟩:=hs;exact⟨Bx,h1,I8 Bx _ _ _ () X Y row h2 hg (fun r e=>(hr r e).2),h3⟩)
  ?assign ?body ?done ?stop
 case assign=>
  rintro q pre x W K ⟨⟨v,hv,fu,hnil⟩,hB⟩ hK
  simp only[sV]
  gi_wp2
  exact hK _ _ ((KeepsOthers.alloc _ _).from _) (KeepsWalks.alloc _ _) ⟨⟨v,hv.alloc _,fu.alloc _,hnil⟩,hB.alloc hB.size _⟩ ⟨W.heap.size,hv.lt,World.alloc_heap_new _ _,rfl⟩
 case body=>
  rintro q pre x a' W hq hqr ⟨⟨v,hv,fu,hnil⟩,hB⟩ ⟨Bx,hBx,bX,rfl⟩ ei
  have hc:=hv.cell
  have Yr:W.cell? ⟨Bx,0,none⟩=some (.int .i64 x.eE):=by simp[World.cell?,bX]
  have Ys:W.cell? ⟨Bx,1,none⟩=some (.int .i64 x.ez):=by simp[World.cell?,bX]
  have VT:=hB.size
  gi_wp2_with (gi_at_builtin;refine wpListIn_append_own _ rfl _ _ 89 rfl w.heap.size 123 i0 (.agg #[.int .i64 0,.int .i64 0]) 2 16 (by kernel_rfl) hi HR w6 jP rfl (by decide) _ _ _ rfl (fu.alloc _) ⟨W.heap.size,0,none⟩ 1 1 [.int .i64 x.eE,.int .i64 x.ez] rfl rfl (cell_two_new _ _ _ _) (by simp[Value.oneCell']) (by unfold maxLen;omega) ah (by simp;omega) ?_;intro v' w4 DN Ae _;obtain⟨g',Yt,rfl⟩:=ownsRow_succ DN;obtain⟨uc,Fc,za,uE,Ab⟩:=hv.appended (by decide) fu VT ah DN Ae;have qV:=uc.cell;have Uh:=uc.frozen)
  exact⟨uE.from _,⟨uE.size,fun k o hk hw=>uE.same k o hk (Obj.not_cells_of_walk hw)⟩,⟨⟨_,Fc,by rw[MO,List.length_append];exact za,by simp⟩,hB.trans Ab⟩⟩
 case done=>
  rintro D ys W hD Ff ⟨⟨v,hv,fu,hnil⟩,hB⟩ hK
  have hc:=hv.cell
  gi_wp2
  refine⟨by simp,.inl ⟨_,_,rfl,run_takeDeferred hK,?_⟩⟩
  exact⟨_,results_tmp rfl _ _ _,ys,v,Ff,rfl,ownsRow_putObj fu _ hK rfl,hnil,hB.trans (belowK_b (w:=w) (Nat.le_refl _) W D _ _ ah hK rfl rfl)⟩
 case stop=>
  rintro D c pre W _ _ h _
  exact h.elim
end Go.Proofs.YtgoljkjaameagaaGreat.V

namespace Go.Proofs.YtgoljkjaameagaaGreat.V
open Go.RowKit Go.Shelf Go.Lib Go.Sort
instance:Inhabited aq:=⟨⟨0,0⟩⟩
variable {P:Program} {w:World} {D:Nat->Prop} {ι:Names}
theorem tz {vs:Array Value} (h:fG P w D ι [] vs):vs= #[]:=Array.eq_empty_of_size_eq_zero h.1
theorem jy {a:AV} {r:List AV} {vs:Array Value} (h:fG P w D ι (a::r) vs):∃u us,vs=(u::us).toArray/\dd P w D ι a u/\fG P w D ι r us.toArray:=by
 obtain⟨h1,h2⟩:=h
 obtain⟨l⟩:=vs
 cases l with
 |nil=>simp at h1
 |cons u us=>
  obtain⟨u',hu,hr⟩:=h2 0 a rfl
  simp at hu;subst hu
  exact⟨u,us,rfl,hr,by simpa using h1,fun j b hj=>by
   obtain⟨v,hv,mE⟩:=h2 (j+1) b (by simpa using hj)
   exact⟨v,by simpa using hv,mE⟩⟩
def Qw:Prop:=∀(tV off cap:Nat) (d:Array aq) (w:World),HoldsK gx 2 w tV off d->tV<w.heap.size->d.size<4611686018427387904->
 Calls Tryz.prog 231 #[.slice (some ⟨tV,off,none⟩) d.size cap,.func (.func 154) #[] #[]] w fun e w'=>e=.returned (.tuple #[])/\∃d' n os,PermIn 0 d.size d d'/\SortedIn (ltOf pD) 0 d.size d'/\w'=sortWorldK gx 2 w tV off n d' os
def Qx:Prop:=∀(p:Option Addr) (cap:Nat) (fv:Value) (w:World),Calls Tryz.prog 231 #[.slice p 0 cap,fv] w fun e w'=>e=.returned (.tuple #[])/\w'=w
theorem OD (p:aq) (j:Nat) (a:AV) (h:(ae p)[j]? =some a) (P:Program) (w:World) (D:Nat->Prop) (ι:Names):dd P w D ι a (gx p)[j]! :=by
 match j,h with
 |0,h=>simp[ae]at h;subst h;exact .eV _ _ (.int _ _)
 |1,h=>simp[ae]at h;subst h;exact .eV _ _ (.int _ _)
 |j+2,h=>simp[ae]at h
theorem J7 (hC:Qw) (hN:Qx) (ps:List aq) (hlen:ps.length<=1048576) (σ:aw) (id:Id) (hg:σ.get id=some ⟨true,2,ps.map ae⟩):
  Call Tryz.prog 231 [.own id 0 ps.length,.fn 154 []] σ fun r σ'=>σ'.next=σ.next/\(∀x,x≠id->σ'.get x=σ.get x)/\∃qs,σ'.get id=some ⟨true,2,qs.map ae⟩/\qs.length=ps.length/\(∀x,x∈qs↔x∈ps)/\∀i j:Nat,i<j->j<qs.length->iS (j7 qs j) (j7 qs i)=false:=by
 refine fN fun hs D ι w vs S U A=>?_
 obtain⟨u1,us1,rfl,h1,h2⟩:=jy A
 obtain⟨u2,us2,h3,h4,h5⟩:=jy h2
 simp at h3;subst h3
 have:=tz h5
 simp at this;subst this
 obtain⟨o,cap,B,rfl,hB,DE,ho,s5,Zz,hk⟩:=ja h1
 obtain⟨WI,gf,rfl,_,hz,_,_⟩:=uR h4
 have hz':WI= #[]:=Array.eq_empty_of_size_eq_zero (by simpa using hz)
 subst hz'
 by_cases h0:ps=[]
 ·subst h0
  refine(hN _ _ _ w).mono ?_
  rintro e w' ⟨rfl,rfl⟩
  exact⟨.gJ [],σ.get,σ.next,D,ι,_,rfl,⟨rfl,fun _ _=>rfl,[],hg,rfl,fun x=>Iff.rfl,fun i j _ hj=>by simp at hj⟩,Step.refl _ _ _ _,S,U,Nat.le_refl _,.gJ [] #[] (fun _=>Go.undef) rfl (fun j hj=>by simp at hj) (fun j a h=>by simp at h)⟩
 have jO:0<ps.length:=List.length_pos_iff.2 h0
 obtain⟨B',dL,R,j6,lk⟩:=S.row id _ hg
 rw[hB]at dL;injection dL with dL;subst dL
 replace R:=R.row hk
 have fm:B.sz=2:=R.sz
 have BD:o=0:=by rcases ho with h|h<;>omega
 subst BD
 obtain⟨cur,T,hblk,dx,tW⟩:=R.cur
 have xS:ps.length*2<=B.C:=by simpa using R.fits
 have hH:HoldsK gx 2 w B.b 0 ps.toArray:=by
  intro t ht
  rw[size_flatK]at ht
  have Z3:t<ps.length*2:=by simpa using ht
  have hi:t / 2<ps.length:=ah
  have CF:w.frozen? ⟨B.b,0+t,none⟩=false:=by
   simp only[World.frozen?,hblk];simp
  refine⟨?_,CF⟩
  rw[get_flatK _ _ _ _ ht]
  have hd:(ps.toArray)[t / 2]! =ps[t / 2]:=by simp[getElem!_pos,hi]
  rw[hd]
  have hj:t % 2=0∨t % 2=1:=ah
  have Z4:0+t=(t / 2)*2+t % 2:=ah
  rw[Z4]
  rcases hj with hj|hj
  ·obtain⟨v,hv,hr⟩:=R.at_ (t / 2) 0 (ae ps[t / 2]) _ (by simp[hi]) rfl
   rw[dq hr]at hv
   rw[hj];exact hv
  ·obtain⟨v,hv,hr⟩:=R.at_ (t / 2) 1 (ae ps[t / 2]) _ (by simp[hi]) rfl
   rw[dq hr]at hv
   rw[hj];exact hv
 have nW:B.b<w.heap.size:=(Array.getElem?_eq_some_iff.1 hblk).1
 have LM:=hC B.b 0 cap ps.toArray w hH nW (by simp;omega)
 rw[show ps.toArray.size=ps.length from by simp]at LM
 refine LM.mono ?_
 rintro e w' ⟨rfl,d',m,os,⟨Fa,_,rn⟩,hsort,rfl⟩
 have LO:d'.size=ps.length:=by rw[Fa];simp
 have Uq:d'.toList.length=ps.length:=by simpa using LO
 have hP:d'.toList.Perm ps:=by
  have e1:d'.extract 0 ps.length=d':=by rw[<-LO];exact Array.extract_size
  have e2:ps.toArray.extract 0 ps.length=ps.toArray:=by
   have:ps.length=ps.toArray.size:=by simp
   rw[this];exact Array.extract_size
  rw[e1,e2]at rn
  simpa using rn
 have hF:∀t,t<ps.length*2->(flatK gx 2 d')[t]! =(gx d'[t / 2]!)[t % 2]! :=fun t ht=>get_flatK _ _ _ _ (by rw[LO];exact ht)
 have Vf:(flatK gx 2 d').size=ps.length*2:=by rw[size_flatK,LO]
 have hw:sortWorldK gx 2 w B.b 0 m d' os=Go.Sort.grow (Go.Sort.putRow (fun v:Value=>v) (Go.Sort.ahead w m) B.b 0 (flatK gx 2 d')) os:=rfl
 rw[hw]
 clear hw hH
 generalize flatK gx 2 d'=Fl at hF Vf ⊢
 have pb:=S.put (r':=⟨true,2,d'.toList.map ae⟩) (cur':=Go.Sort.putCells (fun v:Value=>v) 0 Fl cur) hg rfl hB hblk (by simp[Go.Sort.putCells]) rfl rfl (by simpa[LO]using xS) (fun cs dx=>by
   obtain⟨x,_,rfl⟩:=List.mem_map.1 dx;rfl) (fun cs dx a ha=>by
   obtain⟨x,_,rfl⟩:=List.mem_map.1 dx
   simp[ae]at ha;rcases ha with rfl|rfl<;>rfl) (fun i j cs a hi hj=>by
   have su:i<d'.toList.length:=by
    have:=(List.getElem?_eq_some_iff.1 hi).1
    simpa using this
   have Ky:j<2:=by
    have:=List.mem_of_getElem? hi
    obtain⟨x,_,rfl⟩:=List.mem_map.1 this
    exact(List.getElem?_eq_some_iff.1 hj).1
   have Sj:cs=ae d'[i]! :=by
    rw[List.getElem?_map,List.getElem?_eq_getElem su]at hi
    simp at hi
    rw[<-hi,getElem!_pos d' i (by simpa using su)]
   subst Sj
   have Fb:i*2+j<ps.length*2:=ah
   refine⟨(gx d'[i]!)[j]!,?_,OD _ _ _ hj _ _ _ _⟩
   have mO:i*2+j<cur.size:=by rw[dx];omega
   show(Go.Sort.putCells (fun v:Value=>v) 0 Fl cur)[i*2+j]? = _
   simp only[Go.Sort.putCells,Array.getElem?_mapIdx,Array.getElem?_eq_getElem mO,Option.map_some]
   rw[if_pos ⟨Nat.zero_le _,by rw[Vf];omega⟩,Nat.sub_zero,hF _ Fb,show(i*2+j) / 2=i from by omega,show(i*2+j) % 2=j from by omega])
 obtain⟨S1,sI⟩:=pb
 have Ge:(Go.Sort.putRow (fun v:Value=>v) (Go.Sort.ahead w m) B.b 0 Fl).heap.size=w.heap.size:=by simp
 have DI:∀k,k<(w.setRow B.b (Go.Sort.putCells (fun v:Value=>v) 0 Fl cur)).heap.size->(Go.Sort.grow (Go.Sort.putRow (fun v:Value=>v) (Go.Sort.ahead w m) B.b 0 Fl) os).heap[k]? =(w.setRow B.b (Go.Sort.putCells (fun v:Value=>v) 0 Fl cur)).heap[k]? :=fun k hk=>by
  have DJ:k<w.heap.size:=by simpa using hk
  rw[heap_grow_old _ _ (by rw[Ge];exact DJ)]
  simp only[Go.Sort.putRow,Go.Sort.mapBlock,heap_ahead,Array.getElem?_modify]
  by_cases SA:B.b=k
  ·subst SA
   rw[setRow_heap w B.b cur _ T _ hblk,if_pos rfl,hblk];rfl
  ·rw[if_neg SA,setRow_other w B.b k _ (fun h=>SA h.symm)]
 have jP:(w.setRow B.b (Go.Sort.putCells (fun v:Value=>v) 0 Fl cur)).heap.size<=(Go.Sort.grow (Go.Sort.putRow (fun v:Value=>v) (Go.Sort.ahead w m) B.b 0 Fl) os).heap.size:=by
  rw[size_grow,Ge];simp
 have S2:=S1.stay (D':=D) (ι':=ι) DI jP (fun _ h=>h) (fun b hb=>Nat.lt_of_lt_of_le (S1.dead b hb) jP) (fun _ h=>.inl h) (fun _ _ h=>h)
 have Oh:=sI.trans (Step.stay (D':=D) (ι':=ι) S1 DI jP (by simp[Go.Sort.grow,Go.Sort.putRow,Go.Sort.mapBlock,Go.Sort.ahead]) (by simp[Go.Sort.grow,Go.Sort.putRow,Go.Sort.mapBlock,Go.Sort.ahead]) (by simp[Go.Sort.grow,Go.Sort.putRow,Go.Sort.mapBlock,Go.Sort.ahead]) (fun _ h=>h) (fun _ h=>.inl h) (fun _ _ h=>h))
 refine⟨.gJ [],bE σ.get id ⟨true,2,d'.toList.map ae⟩,σ.next,D,ι,_,rfl,⟨rfl,fun x hx=>by simp[bE,hx],d'.toList,by simp[bE],Uq,fun x=>hP.mem_iff,fun i j y9 hj=>?_⟩,Oh,S2,U,Nat.le_refl _,.gJ [] #[] (fun _=>Go.undef) rfl (fun j hj=>by simp at hj) (fun j a h=>by simp at h)⟩
 have h:=hsort i j (Nat.zero_le _) y9 ah
 rw[ltOf,mB]at h
 have e1:d'[j]! =j7 d'.toList j:=by rw[kq hj,getElem!_pos d' j (by simpa using hj)];rfl
 have hi:i<d'.toList.length:=ah
 have e2:d'[i]! =j7 d'.toList i:=by rw[kq hi,getElem!_pos d' i (by simpa using hi)];rfl
 rw[<-e1,<-e2];exact h
end Go.Proofs.YtgoljkjaameagaaGreat.V

namespace Go.Proofs
open Go.Shelf
def Tryz.GW:Go.Shelf.Ren:=⟨fun|6=>231|15=>209|14=>283|28=>271|29=>272|20=>311|21=>312|22=>313|23=>314|24=>315|25=>316|26=>317|27=>318|46=>331|47=>307|48=>308|49=>332|50=>333|57=>338|n=>n,fun|22=>89|24=>123|25=>215|3=>3|39=>273|0=>0|53=>333|55=>335|4=>4|46=>327|45=>326|50=>223|5=>5|9=>9|66=>360|70=>364|76=>382|77=>383|n=>n,fun|n=>n⟩
theorem Tryz.Na:Go.Proofs.SlLaysF0.n6 Tryz.prog Tryz.GW:={
 mixed:=by kernel_rfl
 f6:=⟨Tryz.f231.name,by decide,Tryz.func231.trans (congrArg some (by kernel_rfl))⟩
 f14:=⟨Tryz.f283.name,by decide,Tryz.func283.trans (congrArg some (by kernel_rfl))⟩
 f15:=Tryz.func209.trans (congrArg some (by kernel_rfl))
 f20:=⟨Tryz.f311.name,by decide,Tryz.func311.trans (congrArg some (by kernel_rfl))⟩
 f21:=⟨Tryz.f312.name,by decide,Tryz.func312.trans (congrArg some (by kernel_rfl))⟩
 f22:=⟨Tryz.f313.name,by decide,Tryz.func313.trans (congrArg some (by kernel_rfl))⟩
 f23:=⟨Tryz.f314.name,by decide,Tryz.func314.trans (congrArg some (by kernel_rfl))⟩
 f24:=⟨Tryz.f315.name,by decide,Tryz.func315.trans (congrArg some (by kernel_rfl))⟩
 f25:=⟨Tryz.f316.name,by decide,Tryz.func316.trans (congrArg some (by kernel_rfl))⟩
 f26:=⟨Tryz.f317.name,by decide,Tryz.func317.trans (congrArg some (by kernel_rfl))⟩
 f27:=⟨Tryz.f318.name,by decide,Tryz.func318.trans (congrArg some (by kernel_rfl))⟩
 f28:=Tryz.func271.trans (congrArg some (by kernel_rfl))
 f29:=Tryz.func272.trans (congrArg some (by kernel_rfl))
 f46:=⟨Tryz.f331.name,by decide,Tryz.func331.trans (congrArg some (by kernel_rfl))⟩
 f47:=Tryz.func307.trans (congrArg some (by kernel_rfl))
 f48:=Tryz.func308.trans (congrArg some (by kernel_rfl))
 f49:=⟨Tryz.f332.name,by decide,Tryz.func332.trans (congrArg some (by kernel_rfl))⟩
 f50:=⟨Tryz.f333.name,by decide,Tryz.func333.trans (congrArg some (by kernel_rfl))⟩
 f57:=⟨Tryz.f338.name,by decide,Tryz.func338.trans (congrArg some (by kernel_rfl))⟩
 t0:=Tryz.underlying0
 a0:=Tryz.isAgg0
 z0:=Tryz.sizeOf0
 v0:=Tryz.zeroValue0
 t3:=Tryz.underlying3
 a3:=Tryz.isAgg3
 z3:=Tryz.sizeOf3
 v3:=Tryz.zeroValue3
 t4:=Tryz.underlying4
 a4:=Tryz.isAgg4
 z4:=Tryz.sizeOf4
 v4:=Tryz.zeroValue4
 t5:=Tryz.underlying5
 a5:=Tryz.isAgg5
 z5:=Tryz.sizeOf5
 v5:=Tryz.zeroValue5
 t9:=Tryz.underlying9
 a9:=Tryz.isAgg9
 z9:=Tryz.sizeOf9
 v9:=Tryz.zeroValue9
 t22:=Tryz.underlying89
 a22:=Tryz.isAgg89
 z22:=Tryz.sizeOf89
 v22:=Tryz.zeroValue89
 t25:=Tryz.underlying215
 a25:=Tryz.isAgg215
 z25:=Tryz.sizeOf215
 v25:=Tryz.zeroValue215
 t39:=Tryz.underlying273
 a39:=Tryz.isAgg273
 z39:=Tryz.sizeOf273
 v39:=Tryz.zeroValue273
 t45:=Tryz.underlying326
 a45:=Tryz.isAgg326
 z45:=Tryz.sizeOf326
 v45:=Tryz.zeroValue326
 t46:=Tryz.underlying327
 a46:=Tryz.isAgg327
 z46:=Tryz.sizeOf327
 v46:=Tryz.zeroValue327
 t50:=Tryz.underlying223
 a50:=Tryz.isAgg223
 z50:=Tryz.sizeOf223
 v50:=Tryz.zeroValue223
 t53:=Tryz.underlying333
 a53:=Tryz.isAgg333
 z53:=Tryz.sizeOf333
 v53:=Tryz.zeroValue333
 t55:=Tryz.underlying335
 a55:=Tryz.isAgg335
 z55:=Tryz.sizeOf335
 v55:=Tryz.zeroValue335
 t66:=Tryz.underlying360
 a66:=Tryz.isAgg360
 z66:=Tryz.sizeOf360
 v66:=Tryz.zeroValue360
 t70:=Tryz.underlying364
 a70:=Tryz.isAgg364
 z70:=Tryz.sizeOf364
 v70:=Tryz.zeroValue364
 t76:=Tryz.underlying382
 a76:=Tryz.isAgg382
 z76:=Tryz.sizeOf382
 v76:=Tryz.zeroValue382
 t77:=Tryz.underlying383
 a77:=Tryz.isAgg383
 z77:=Tryz.sizeOf383
 v77:=Tryz.zeroValue383}
def Tryz.GV:Go.Shelf.Ren:=⟨fun|6=>185|15=>209|14=>250|28=>271|29=>272|20=>289|21=>290|22=>291|23=>292|24=>293|25=>294|26=>295|27=>296|46=>324|47=>307|48=>308|49=>325|50=>326|57=>336|n=>n,fun|22=>40|24=>171|25=>244|3=>3|39=>273|0=>0|53=>333|55=>335|4=>4|46=>327|45=>326|50=>223|5=>5|9=>9|66=>360|70=>364|76=>382|77=>383|n=>n,fun|n=>n⟩
theorem Tryz.M9:Go.Proofs.SlLaysF0.n6 Tryz.prog Tryz.GV:={
 mixed:=by kernel_rfl
 f6:=⟨Tryz.f185.name,by decide,Tryz.func185.trans (congrArg some (by kernel_rfl))⟩
 f14:=⟨Tryz.f250.name,by decide,Tryz.func250.trans (congrArg some (by kernel_rfl))⟩
 f15:=Tryz.func209.trans (congrArg some (by kernel_rfl))
 f20:=⟨Tryz.f289.name,by decide,Tryz.func289.trans (congrArg some (by kernel_rfl))⟩
 f21:=⟨Tryz.f290.name,by decide,Tryz.func290.trans (congrArg some (by kernel_rfl))⟩
 f22:=⟨Tryz.f291.name,by decide,Tryz.func291.trans (congrArg some (by kernel_rfl))⟩
 f23:=⟨Tryz.f292.name,by decide,Tryz.func292.trans (congrArg some (by kernel_rfl))⟩
 f24:=⟨Tryz.f293.name,by decide,Tryz.func293.trans (congrArg some (by kernel_rfl))⟩
 f25:=⟨Tryz.f294.name,by decide,Tryz.func294.trans (congrArg some (by kernel_rfl))⟩
 f26:=⟨Tryz.f295.name,by decide,Tryz.func295.trans (congrArg some (by kernel_rfl))⟩
 f27:=⟨Tryz.f296.name,by decide,Tryz.func296.trans (congrArg some (by kernel_rfl))⟩
 f28:=Tryz.func271.trans (congrArg some (by kernel_rfl))
 f29:=Tryz.func272.trans (congrArg some (by kernel_rfl))
 f46:=⟨Tryz.f324.name,by decide,Tryz.func324.trans (congrArg some (by kernel_rfl))⟩
 f47:=Tryz.func307.trans (congrArg some (by kernel_rfl))
 f48:=Tryz.func308.trans (congrArg some (by kernel_rfl))
 f49:=⟨Tryz.f325.name,by decide,Tryz.func325.trans (congrArg some (by kernel_rfl))⟩
 f50:=⟨Tryz.f326.name,by decide,Tryz.func326.trans (congrArg some (by kernel_rfl))⟩
 f57:=⟨Tryz.f336.name,by decide,Tryz.func336.trans (congrArg some (by kernel_rfl))⟩
 t0:=Tryz.underlying0
 a0:=Tryz.isAgg0
 z0:=Tryz.sizeOf0
 v0:=Tryz.zeroValue0
 t3:=Tryz.underlying3
 a3:=Tryz.isAgg3
 z3:=Tryz.sizeOf3
 v3:=Tryz.zeroValue3
 t4:=Tryz.underlying4
 a4:=Tryz.isAgg4
 z4:=Tryz.sizeOf4
 v4:=Tryz.zeroValue4
 t5:=Tryz.underlying5
 a5:=Tryz.isAgg5
 z5:=Tryz.sizeOf5
 v5:=Tryz.zeroValue5
 t9:=Tryz.underlying9
 a9:=Tryz.isAgg9
 z9:=Tryz.sizeOf9
 v9:=Tryz.zeroValue9
 t22:=Tryz.underlying40
 a22:=Tryz.isAgg40
 z22:=Tryz.sizeOf40
 v22:=Tryz.zeroValue40
 t25:=Tryz.underlying244
 a25:=Tryz.isAgg244
 z25:=Tryz.sizeOf244
 v25:=Tryz.zeroValue244
 t39:=Tryz.underlying273
 a39:=Tryz.isAgg273
 z39:=Tryz.sizeOf273
 v39:=Tryz.zeroValue273
 t45:=Tryz.underlying326
 a45:=Tryz.isAgg326
 z45:=Tryz.sizeOf326
 v45:=Tryz.zeroValue326
 t46:=Tryz.underlying327
 a46:=Tryz.isAgg327
 z46:=Tryz.sizeOf327
 v46:=Tryz.zeroValue327
 t50:=Tryz.underlying223
 a50:=Tryz.isAgg223
 z50:=Tryz.sizeOf223
 v50:=Tryz.zeroValue223
 t53:=Tryz.underlying333
 a53:=Tryz.isAgg333
 z53:=Tryz.sizeOf333
 v53:=Tryz.zeroValue333
 t55:=Tryz.underlying335
 a55:=Tryz.isAgg335
 z55:=Tryz.sizeOf335
 v55:=Tryz.zeroValue335
 t66:=Tryz.underlying360
 a66:=Tryz.isAgg360
 z66:=Tryz.sizeOf360
 v66:=Tryz.zeroValue360
 t70:=Tryz.underlying364
 a70:=Tryz.isAgg364
 z70:=Tryz.sizeOf364
 v70:=Tryz.zeroValue364
 t76:=Tryz.underlying382
 a76:=Tryz.isAgg382
 z76:=Tryz.sizeOf382
 v76:=Tryz.zeroValue382
 t77:=Tryz.underlying383
 a77:=Tryz.isAgg383
 z77:=Tryz.sizeOf383
 v77:=Tryz.zeroValue383}
end Go.Proofs

namespace Go.Proofs.YtgoljkjaameagaaGreat.V
open Go.RowKit Go.Shelf Go.Lib Go.Sort
theorem Dc (w:World) (a b:Int):Calls Tryz.prog 210 #[.int .i64 a,.int .i64 b] w fun e w'=>e=.returned (.int .i64 (sR a b))/\w=w':=by
 go_enter Tryz.func210,Tryz.ntmps210
 go_wp2_with go_in
 all_goals
  go_ret
  exact⟨H7 (by unfold sR;split<;>(try split)<;>omega),rfl⟩
theorem PQ (w:World) (a b:Int) (g:Nat) (ha:w.cell? ⟨g,0,none⟩=some (.int .i64 a)) (hb:w.cell? ⟨g,1,none⟩=some (.int .i64 b)):Calls Tryz.prog 233 #[.slice (some ⟨g,0,none⟩) 2 2] w fun e w'=>e=.returned (.int .i64 (PR a b))/\w=w':=by
 go_enter Tryz.func233,Tryz.ntmps233
 go_wp2_with fail
 go_loop [8] (fun i=>∃k:Nat,k<=2/\i=.int .i64 k/\Hid ((1<=k->a=0)/\(2<=k->b=0))) (fun i=>2-(intOf i).toNat)
 case atStart=>exact⟨0,ah,rfl,Lib.hid ⟨fun h=>ah,fun h=>ah⟩⟩
 case round=>
  obtain⟨k,hk,rfl,hz⟩:=hrel
  have h3:k=0∨k=1∨k=2:=ah
  rcases h3 with rfl|rfl|rfl
  ·go_wp2_with fail
   ·rename_i h
    go_ret
    exact⟨H7 (by unfold PR;simp_all),rfl⟩
   ·rename_i h
    go_round
    case rel=>exact⟨1,ah,rfl,Lib.hid ⟨fun _=>by simpa using h,fun h=>ah⟩⟩
    case measure=>simp[intOf]
  ·have h0:=hz.out.1 ah
   replace h0:=Lib.hid h0
   go_wp2_with fail
   ·go_ret
    exact⟨H7 (by unfold PR;rw[if_pos h0.out]),rfl⟩
   ·rename_i h
    go_round
    case rel=>exact⟨2,ah,rfl,Lib.hid ⟨fun _=>h0.out,fun _=>by simpa using h⟩⟩
    case measure=>simp[intOf]
  ·have h0:=Lib.hid (hz.out.1 ah)
   have h1:=Lib.hid (hz.out.2 ah)
   go_wp2_with fail
   go_ret
   exact⟨H7 (by unfold PR;rw[if_pos h0.out,h1.out]),rfl⟩
def Grown (w w':World):Prop:=∃(q:Nat) (os:Array Obj),w'=Go.Sort.grow (w.drewN q) os
theorem Grown.refl (w:World):Grown w w:=⟨0, #[],by rw[grow_empty];rfl⟩
theorem Grown.alloc {w w':World} (h:Grown w w') (o:Obj):Grown w (w'.alloc o):=by
 obtain⟨q,os,rfl⟩:=h
 exact⟨q,os++ #[o],by rw[alloc_eq_grow,grow_grow]⟩
theorem Grown.drew {w w':World} (h:Grown w w'):Grown w w'.drew:=by
 obtain⟨q,os,rfl⟩:=h
 exact⟨q+1,os,by rw[drew_grow];rfl⟩
theorem Grown.dN {w w':World} (h:Grown w w') (n:Nat):Grown w (w'.drewN n):=by
 obtain⟨q,os,rfl⟩:=h
 exact⟨q+n,os,by
  show Go.Sort.grow ((w.drewN q).drewN n) os=Go.Sort.grow (w.drewN (q+n)) os
  simp[World.drewN,Nat.add_assoc]⟩
theorem oJ (w:World) (a b:aq):Calls Tryz.prog 154 #[.agg #[.int .i64 a.eE,.int .i64 a.ez],.agg #[.int .i64 b.eE,.int .i64 b.ez]] w fun e w'=>e=.returned (.int .i64 (pD a b))/\Grown w w':=by
 go_enter Tryz.func154,Tryz.ntmps154
 go_wp2_with fail
 go_region_held3 (fun w'=>w'.cell? ⟨w.heap.size,0,none⟩=some (.int .i64 a.eE)/\w'.cell? ⟨w.heap.size,1,none⟩=some (.int .i64 a.ez)/\
   w'.cell? ⟨w.heap.size+1,0,none⟩=some (.int .i64 b.eE)/\w'.cell? ⟨w.heap.size+1,1,none⟩=some (.int .i64 b.ez))
  (first|go_keep)
  (first|(go_at_call 210;refine(Dc _ _ _).mono ?_;rintro e w' ⟨rfl,rfl⟩)|(go_at_call 233;refine(PQ _ (sR a.ez b.ez) (sR a.eE b.eE) _ (by simp[go_sem]) (by simp[go_sem])).mono ?_;rintro e w' ⟨rfl,rfl⟩))
 go_wp2_with fail
 go_ret
 refine⟨rfl,?_⟩
 repeat(first|(with_reducible exact Grown.refl _)|(refine Grown.alloc ?_ _)|(refine Grown.drew ?_)|(refine Grown.dN ?_ _))
theorem swoP:SWO (ltOf pD) where
 irrefl x:=by rw[ltOf,mB];exact iM
 trans x y z h1 h2:=by rw[ltOf,mB]at *;exact iK h1 h2
 ntrans x y z h1 h2:=by rw[ltOf,mB]at *;rw[nA]at *;omega
theorem WB:Qw:=fun tV off cap d w hH hblk fm=>by
 have eg:∀args w,(callFunc 154 args).run Tryz.prog w=.ok (.enter 154 args) w:=enters_of Tryz.func154 (by kernel_rfl) rfl
 have h:=AnyQ.slices_SortFunc Tryz.Na 2 Tryz.isAgg123 Tryz.sizeOf123 gx (fun _=>rfl) (fun x v hv=>by simp[gx]at hv;rcases hv with rfl|rfl<;>rfl) pD swoP 154 #[] tV off cap d w eg (fun m os dk _ x y=>(oJ _ x y).mono fun _ _ ⟨he,q,os',hw⟩=>⟨he,q,os',hw⟩) hH hblk fm
 exact h
theorem Ra:Qx:=fun p cap fv w=>AnyF.slices_SortFunc_none Tryz.Na p cap fv w
end Go.Proofs.YtgoljkjaameagaaGreat.V

namespace Go.Proofs.YtgoljkjaameagaaGreat.V
open Go.RowKit
attribute [local irreducible] dK wpOps gw Call
attribute [local go_sem] aM fE eM fV fS dc upd cr K.av cI AV.cells AV.cell rowOf rowsOf part ld rowAt bE cj dy dS gU bJ cY ee fQ e6 dp dX cW cV dI dJ bP bc cL bL cP cN dV dY dW cK bU cX dU bK aO cR cC gT bw cG bQ aY dj aZ dz AV.undef bD bG dM dQ dE dG cE ec eh cz ea dZ cQ cU List.getD_cons_zero List.getD_cons_succ List.getD_nil List.all_cons List.all_nil Bool.and_true Bool.true_and Bool.and_self Bool.not_true Bool.not_false Option.map_some Option.map_none Option.bind_some Option.bind_none List.length_cons List.length_nil List.take_succ_cons List.take_zero List.take_nil List.drop_succ_cons List.drop_zero List.drop_nil List.head?_cons List.map_cons List.map_nil List.getElem?_cons_zero List.getElem?_cons_succ List.cons_append List.nil_append List.append_nil List.length_map List.set_cons_zero List.set_cons_succ Nat.reduceMul eq_self Int.toNat_natCast Int.natCast_nonneg and_self true_and and_true decide_true decide_false Bool.false_eq_true Nat.zero_add Nat.add_zero List.contains_cons List.contains_nil Bool.or_false Bool.false_or beq_self_eq_true Nat.reduceBEq ne_eq not_true_eq_false not_false_eq_true Id.mk.injEq false_and and_false Nat.reduceLT Int.reduceLE Int.reduceLT Int.reduceToNat Int.reduceNeg Int.reduceAdd Nat.le_refl List.length_append beq_true beq_false Bool.not_eq_eq_eq_not or_false false_or dH aj ar aH bh bz ck aV bd aX bf cJ bB
structure oG (n:Nat) (px:Nat->Option Nat) (L:Nat->Nat):Prop where
 top:∀k,k<n->px k=none->L k=k
 up:∀k j,k<n->px k=some j->j<k/\L j=L k
theorem oG.root {n:Nat} {px:Nat->Option Nat} {L:Nat->Nat} (h:oG n px L) (hL:j8 L) {k:Nat} (hk:k<n) (hr:L k=k):px k=none:=by
 rcases hp:px k with _|j
 ·rfl
 ·obtain⟨h1,h2⟩:=h.up k j hk hp
  have:=hL.le j
  omega
theorem oG.start (n:Nat):oG n (fun _=>none) id:=⟨fun _ _ _=>rfl,fun _ _ _ h=>by cases h⟩
theorem oG.join {n:Nat} {px:Nat->Option Nat} {L:Nat->Nat} (h:oG n px L) (hL:j8 L) (b:PB) (ei:min (L b.a) (L b.b)<max (L b.a) (L b.b)):oG n (fun k=>if k=max (L b.a) (L b.b)then some (min (L b.a) (L b.b))else px k) (eX L b):=by
 have ha:=hL.idem b.a
 have hb:=hL.idem b.b
 have BC:L (min (L b.a) (L b.b))=min (L b.a) (L b.b):=by
  rcases Nat.le_total (L b.a) (L b.b)with h|h
  ·rw[Nat.min_eq_left h,ha]
  ·rw[Nat.min_eq_right h,hb]
 have VR:L (max (L b.a) (L b.b))=max (L b.a) (L b.b):=by
  rcases Nat.le_total (L b.a) (L b.b)with h|h
  ·rw[Nat.max_eq_right h,hb]
  ·rw[Nat.max_eq_left h,ha]
 unfold eX
 generalize min (L b.a) (L b.b)=lo at *
 generalize max (L b.a) (L b.b)=hi at *
 refine⟨fun k hk hp=>?_,fun k j hk hp=>?_⟩
 ·by_cases N4:k=hi
  ·rw[if_pos N4]at hp;cases hp
  ·rw[if_neg N4]at hp
   have:=h.top k hk hp
   rw[if_neg ah];exact this
 ·by_cases N4:k=hi
  ·rw[if_pos N4]at hp
   cases hp
   subst N4
   exact⟨ei,by rw[if_neg ah,if_pos VR,BC]⟩
  ·rw[if_neg N4]at hp
   obtain⟨h1,h2⟩:=h.up k j hk hp
   exact⟨h1,by rw[h2]⟩
theorem BJ {L:Nat->Nat} {b:PB} (h:L b.a=L b.b):eX L b=L:=by
 funext k
 unfold eX
 rw[h,Nat.max_self,Nat.min_self]
 split
 ·rename_i h;exact h.symm
 ·rfl
def uA (G:Nat->Id) (px:Nat->Option Nat) (k:Nat):List AV:=[match px k with|none=>.iA|some j=>.ptr (G j) 0 0,.int .i64 (k:Int)]
def wj (g:Rows) (G:Nat->Id) (n:Nat) (px:Nat->Option Nat):Prop:=∀k,k<n->g (G k)=some ⟨true,2,[uA G px k]⟩
theorem wj.frame {g g':Rows} {G:Nat->Id} {n:Nat} {px:Nat->Option Nat} (h:wj g G n px) (hf:∀k,k<n->g' (G k)=g (G k)):wj g' G n px:=fun k hk=>(hf k hk).trans (h k hk)
theorem mD {G:Nat->Id} {px:Nat->Option Nat} {k:Nat} (h:px k=none):uA G px k=[.iA,.int .i64 (k:Int)]:=by rw[uA,h]
theorem vH {G:Nat->Id} {px:Nat->Option Nat} {k j:Nat} (h:px k=some j):uA G px k=[.ptr (G j) 0 0,.int .i64 (k:Int)]:=by rw[uA,h]
theorem Bl (G:Nat->Id) (n:Nat) (px:Nat->Option Nat) (L:Nat->Nat) (h:oG n px L) (k:Nat) (hk:k<n) (σ:aw) (hG:wj σ.get G n px):
  Call Tryz.prog 334 [.ptr (G k) 0 0] σ fun r σ'=>r=.ptr (G (L k)) 0 0/\σ'.get=σ.get/\σ.next<=σ'.next:=by
 refine eA eF rfl fun hl=>?_
 clear hl
 (try((repeat(revert hN;revert N;apply Pn.out));refine wk @Nat.zero_add ?_;(repeat(refine Pn.mk ?_;intro N hN))))
 refine aQ (fun m env st=>∃j:Nat,m=j/\j<n/\env 0=.ptr (G j) 0 0/\L j=L k/\st.get=σ.get/\σ.next<=st.next) k ⟨k,rfl,hk,sd @Nat.zero_add,rfl,by(try dsimp only),aT⟩ ?_
 rintro m env_b st_b ⟨j,rfl,hj,b0,hLj,hg,hle⟩ eI
 clear eI
 have fu:=hG m hj
 rcases hp:px m with _|j
 ·rw[mD hp]at fu
  (try((repeat(revert hN;revert N;apply Pn.out));refine wk (tw @b0 (tw @hg @fu)) ?_;(repeat(refine Pn.mk ?_;intro N hN))))
  exact eS (.inl rfl) (vs:=[.ptr (G m) 0 0]) (sd @Nat.zero_add) ⟨by rw[<-hLj,h.top m hj hp];rfl,by first|trivial|rfl|exact hg,aT⟩
 ·rw[vH hp]at fu
  obtain⟨h1,h2⟩:=h.up m j hj hp
  (try((repeat(revert hN;revert N;apply Pn.out));refine wk (tw @b0 (tw @hg @fu)) ?_;(repeat(refine Pn.mk ?_;intro N hN))))
  exact⟨j,h1,j,rfl,ah,sd @Nat.zero_add,ah,by first|trivial|rfl|exact hg,aT⟩
end Go.Proofs.YtgoljkjaameagaaGreat.V

namespace Go.Proofs.YtgoljkjaameagaaGreat.V
open Go.RowKit
attribute [local irreducible] dK wpOps gw Call
attribute [local go_sem] aM fE eM fV fS dc upd cr K.av cI AV.cells AV.cell rowOf rowsOf part ld rowAt bE cj dy dS gU bJ cY ee fQ e6 dp dX cW cV dI dJ bP bc cL bL cP cN dV dY dW cK bU cX dU bK aO cR cC gT bw cG bQ aY dj aZ dz AV.undef bD bG dM dQ dE dG cE ec eh cz ea dZ cQ cU List.getD_cons_zero List.getD_cons_succ List.getD_nil List.all_cons List.all_nil Bool.and_true Bool.true_and Bool.and_self Bool.not_true Bool.not_false Option.map_some Option.map_none Option.bind_some Option.bind_none List.length_cons List.length_nil List.take_succ_cons List.take_zero List.take_nil List.drop_succ_cons List.drop_zero List.drop_nil List.head?_cons List.map_cons List.map_nil List.getElem?_cons_zero List.getElem?_cons_succ List.cons_append List.nil_append List.append_nil List.length_map List.set_cons_zero List.set_cons_succ eq_self Int.toNat_natCast Int.natCast_nonneg and_self true_and and_true decide_true decide_false Bool.false_eq_true Nat.zero_add Nat.add_zero List.contains_cons List.contains_nil Bool.or_false Bool.false_or beq_self_eq_true ne_eq not_true_eq_false not_false_eq_true Id.mk.injEq false_and and_false Nat.le_refl List.length_append beq_true beq_false Bool.not_eq_eq_eq_not or_false false_or dH aj ar aH bh bz ck aV bd aX bf cJ bB
abbrev mI:MK:=⟨false,[.tI]⟩
def uI (l:List (Nat×Nat)):List (List AV):=l.map fun p=>[.int .i64 (p.1:Int),.int .i64 (p.2:Int)]
theorem D5 (r:Nat):∀(l:List (Nat×Nat)) (i:Nat),((∀p∈l,p.1≠r)->gH mI [.int .i64 (r:Int)] (uI l) i=some none)/\(∀j v,l[j]? =some (r,v)->(∀x y,x<j->l[x]? =some y->y.1≠r)->gH mI [.int .i64 (r:Int)] (uI l) i=some (some (i+j)))
 |[],i=>⟨fun _=>rfl,fun j v h=>by simp at h⟩
 |p::l,i=>by
  obtain⟨h1,h2⟩:=D5 r l (i+1)
  by_cases h:p.1=r
  ·refine⟨fun hp=>absurd h (hp p (by simp)),fun j v hj hf=>?_⟩
   have Uj:j=0:=by
    rcases Nat.eq_zero_or_pos j with h0|h0
    ·exact h0
    ·exact absurd h (hf 0 p h0 (by simp))
   subst Uj
   simp[uI,gH,e6,fQ,MK.ks,h]
  ·have hd:¬((r:Int)=(p.1:Int)):=ah
   have nw:¬r=p.1:=fun he=>h he.symm
   have step:gH mI [.int .i64 (r:Int)] (uI (p::l)) i=gH mI [.int .i64 (r:Int)] (uI l) (i+1):=by
    unfold uI
    simp[gH,MK.ks,e6,fQ,hd,nw,h]
   rw[step]
   refine⟨fun hp=>h1 fun q hq=>hp q (by simp[hq]),fun j v hj hf=>?_⟩
   cases j with
   |zero=>simp at hj;rw[hj]at h;exact absurd rfl h
   |succ j=>
    rw[h2 j v (by simpa using hj) fun x y hx hy=>hf (x+1) y ah (by simpa using hy)]
    congr 2;omega
theorem Am {r:Nat} {l:List (Nat×Nat)}:((∀p∈l,p.1≠r)->gD mI (.int .i64 (r:Int)) (uI l)=some none)/\(∀j v,l[j]? =some (r,v)->(∀x y,x<j->l[x]? =some y->y.1≠r)->gD mI (.int .i64 (r:Int)) (uI l)=some (some j)):=by
 have e:gD mI (.int .i64 (r:Int)) (uI l)=gH mI [.int .i64 (r:Int)] (uI l) 0:=by
  unfold gD
  rw[if_pos ⟨rfl,rfl,rfl⟩];rfl
 obtain⟨h1,h2⟩:=D5 r l 0
 rw[e]
 exact⟨h1,fun j v hj hf=>by rw[h2 j v hj hf,Nat.zero_add]⟩
def lS (k:Nat) (L:Nat->Nat):List (List AV):=uI (leads k L).zipIdx
theorem Gq {k:Nat} {L:Nat->Nat} (h:L k=k):lS (k+1) L=lS k L++[[.int .i64 (k:Int),.int .i64 ((leads k L).length:Int)]]:=by
 unfold lS
 rw[iz,if_pos h,List.zipIdx_append]
 simp[uI]
theorem Gp {k:Nat} {L:Nat->Nat} (h:L k≠k):lS (k+1) L=lS k L:=by
 unfold lS
 rw[iz,if_neg h,List.append_nil]
theorem Jw {k:Nat} {L:Nat->Nat} (h:L k=k):gD mI (.int .i64 (k:Int)) (lS k L)=some none:=by
 refine Am.1 fun p hp=>?_
 have:=List.fst_mem_of_mem_zipIdx hp
 have:=(Ar.1 this).1
 omega
theorem Aq {n:Nat} {L:Nat->Nat} {x y:Nat} (hx:x<(leads n L).length) (hy:y<(leads n L).length) (h:(leads n L)[x]=(leads n L)[y]):x=y:=by
 have hp:=List.pairwise_iff_getElem.1 (vQ n L)
 rcases Nat.lt_trichotomy x y with ei|he|ei
 ·exact absurd h (hp x y hx hy ei)
 ·exact he
 ·exact absurd h.symm (hp y x hy hx ei)
theorem Ap {k:Nat} {L:Nat->Nat} (hL:j8 L) (h:L k≠k):gD mI (.int .i64 (L k:Int)) (lS k L)=some (some (cu L k))/\(lS k L)[cu L k]? =some [.int .i64 (L k:Int),.int .i64 (cu L k:Int)]/\cu L k<(leads k L).length:=by
 have ei:L k<k:=Nat.lt_of_le_of_ne (hL.le k) h
 have hn:cu L (L k)=cu L k:=by rw[cu,hL.idem,cu]
 have hg:=qy hL ei
 rw[hn,hL.idem]at hg
 have hl:cu L k<(leads k L).length:=(List.getElem?_eq_some_iff.1 hg).1
 have hz:(leads k L).zipIdx[cu L k]? =some (L k,cu L k):=by simp[List.getElem?_zipIdx,hg]
 refine⟨Am.2 _ _ hz fun x y hx hy=>?_,by unfold lS uI;rw[List.getElem?_map,hz];rfl,hl⟩
 intro he
 rw[List.getElem?_zipIdx]at hy
 have Uy:x<(leads k L).length:=ah
 rw[List.getElem?_eq_getElem Uy]at hy
 simp at hy
 rw[<-hy]at he
 simp at he
 have e2:(leads k L)[cu L k]=L k:=(List.getElem?_eq_some_iff.1 hg).2
 have:=Aq Uy hl (he.trans e2.symm)
 omega
def kg (k:Nat) (L:Nat->Nat):List (List Nat):=(leads k L).map (members k L)
theorem rV (k:Nat) (L:Nat->Nat):(kg k L).length=(leads k L).length:=by simp[kg]
theorem FV {k:Nat} {L:Nat->Nat} (hL:j8 L) (h:L k=k):kg (k+1) L=kg k L++[[k]]:=by
 unfold kg
 rw[iz,if_pos h,List.map_append,List.map_cons,List.map_nil,jR,if_pos h,n9 hL (Nat.le_refl k),List.nil_append]
 congr 1
 refine List.map_congr_left fun r hr=>?_
 have:=(Ar.1 hr).1
 rw[jR,if_neg ah,List.append_nil]
theorem FW {k:Nat} {L:Nat->Nat} (hL:j8 L) (h:L k≠k):(kg k L)[cu L k]? =some (members k L (L k))/\kg (k+1) L=(kg k L).set (cu L k) (members k L (L k)++[k]):=by
 obtain⟨_,_,hl⟩:=Ap hL h
 have ei:L k<k:=Nat.lt_of_le_of_ne (hL.le k) h
 have hg:=qy hL ei
 have hn:cu L (L k)=cu L k:=by rw[cu,hL.idem,cu]
 rw[hn,hL.idem]at hg
 refine⟨by unfold kg;rw[List.getElem?_map,hg];rfl,?_⟩
 unfold kg
 rw[iz,if_neg h,List.append_nil]
 refine List.ext_getElem? fun i=>?_
 rw[List.getElem?_set,List.getElem?_map,List.length_map]
 by_cases hi:cu L k=i
 ·subst hi
  rw[if_pos rfl,if_pos hl,hg,Option.map_some,jR,if_pos rfl]
 ·rw[if_neg hi,List.getElem?_map]
  rcases hr:(leads k L)[i]? with _|r
  ·rfl
  ·rw[Option.map_some,Option.map_some,jR,if_neg,List.append_nil]
   rintro rfl
   obtain⟨mb,he⟩:=List.getElem?_eq_some_iff.1 hr
   have e2:(leads k L)[cu L k]=L k:=(List.getElem?_eq_some_iff.1 hg).2
   exact hi (Aq hl mb (e2.trans he.symm))
theorem Ek (k:Nat) (L:Nat->Nat) (r:Nat):(members k L r).length<=k:=by
 have:=List.length_filter_le (fun x=>L x==r) (List.range k)
 simpa[members]using this
def NO (g:Rows) (o:Id) (L:List (List Nat)) (nx:Nat):Prop:=∃rows ids,g o=some ⟨true,1,rows⟩/\dD T6 g rows L ids/\ids.Nodup/\(∀i∈ids,i.site=320026008/\i.bj<nx)/\o.site=320025002/\o.bj<nx
theorem OP {g':Rows} {v v' zE j:Nat} (h1:g' ⟨320025002,v⟩=some ⟨true,1,[[.own ⟨320026008,v'⟩ 0 1]]⟩) (h2:g' ⟨320026008,v'⟩=some ⟨true,1,[eN j]⟩) (hv:v<zE) (pc:v'<zE):NO g' ⟨320025002,v⟩ [[j]] zE:=
 ⟨_,[⟨320026008,v'⟩],h1,.one ⟨_,rfl,h2,rfl⟩,by simp,fun i hi=>by rw[List.mem_singleton.1 hi];exact⟨rfl,pc⟩,rfl,hv⟩
theorem NO.new {g:Rows} {o:Id} {L:List (List Nat)} {nx:Nat} (h:NO g o L nx) (j:Nat):∃rows,g o=some ⟨true,1,rows⟩/\rows.length=L.length/\∀(g':Rows) (v v' zE:Nat),nx<=v'->v<zE->v'<zE->g' ⟨320025002,v⟩=some ⟨true,1,rows++[[.own ⟨320026008,v'⟩ 0 1]]⟩->g' ⟨320026008,v'⟩=some ⟨true,1,[eN j]⟩->(∀i:Id,i.site=320026008->i.bj<nx->g' i=g i)->NO g' ⟨320025002,v⟩ (L++[[j]]) zE:=by
 obtain⟨rows,ids,h1,h2,h3,h4,h5,h6⟩:=h
 refine⟨rows,h1,h2.len,fun g' v v' zE hv uc Fc q1 q2 q3=>⟨_,ids++[⟨320026008,v'⟩],q1,(h2.frame Ta fun i hi=>q3 i (h4 i hi).1 (h4 i hi).2).app (.one ⟨_,rfl,q2,rfl⟩),?_,fun i hi=>?_,rfl,uc⟩⟩
 ·refine List.nodup_append.2 ⟨h3,by simp,fun a ha b hb nV=>?_⟩
  rw[List.mem_singleton.1 hb]at nV
  have:=(h4 a ha).2
  rw[nV]at this
  simp only at this
  omega
 ·rcases List.mem_append.1 hi with hi|hi
  ·have:=h4 i hi;exact⟨this.1,ah⟩
  ·rw[List.mem_singleton.1 hi];exact⟨rfl,Fc⟩
theorem NO.add {g:Rows} {o:Id} {L:List (List Nat)} {nx k:Nat} {La:List Nat} (h:NO g o L nx) (hk:L[k]? =some La) (j:Nat):∃rows id,g o=some ⟨true,1,rows⟩/\rows.length=L.length/\rows[k]? =some [.own id 0 La.length]/\g id=some ⟨true,1,La.map eN⟩/\id.site=320026008/\id.bj<nx/\∀(g':Rows) (v' zE:Nat),nx<=v'->v'<zE->g' o=some ⟨true,1,rows.set k [.own ⟨320026008,v'⟩ 0 (La.length+1)]⟩->g' ⟨320026008,v'⟩=some ⟨true,1,La.map eN++[[.int .i64 (j:Int)]]⟩->(∀i:Id,i.site=320026008->i.bj<nx->(i=id)=False->g' i=g i)->NO g' o (L.set k (La++[j])) zE:=by
 obtain⟨rows,ids,h1,h2,h3,h4,h5,h6⟩:=h
 have lj:k<L.length:=(List.getElem?_eq_some_iff.1 hk).1
 have Y5:=lQ hk lj
 obtain⟨cs,ic,dx,Uf,Sx,pb⟩:=h2.Wv Ta h3 k lj
 rw[Y5]at Uf
 obtain⟨id,rfl,q1,rfl⟩:=Uf
 have hid:=h4 id (Sx id (by simp))
 refine⟨rows,id,h1,h2.len,dx,q1,hid.1,hid.2,fun g' v' zE hv uc r1 r2 r3=>?_⟩
 obtain⟨Gi,s1,s2,s3⟩:=pb g' [.own ⟨320026008,v'⟩ 0 (La.length+1)] (La++[j]) [⟨320026008,v'⟩] ⟨_,by simp,by rw[r2];simp[eN],rfl⟩ (fun i hi XM=>r3 i (h4 i hi).1 (h4 i hi).2 (by
  simp only[eq_iff_iff,iff_false];rintro rfl;exact XM (by simp))) (by simp) fun i hi hc=>by
   rw[List.mem_singleton.1 hi]at hc
   have:=(h4 _ hc).2
   simp only at this
   omega
 refine⟨_,Gi,r1,s1,s2,fun i hi=>?_,h5,ah⟩
 rcases s3 i hi with h|h
 ·rw[List.mem_singleton.1 h];exact⟨rfl,uc⟩
 ·have:=h4 i h;exact⟨this.1,ah⟩
def mZ (G:Nat->Id) (n k:Nat):List (List AV):=(List.range n).map fun i=>[if i<k then .ptr (G i) 0 0 else .iA]
theorem nG (G:Nat->Id) (n k:Nat):(mZ G n k).length=n:=by simp[mZ]
theorem Kd (G:Nat->Id) (n:Nat):List.replicate n [AV.iA]=mZ G n 0:=by
 refine List.ext_getElem? fun i=>?_
 by_cases h:i<n
 ·rw[List.getElem?_replicate,if_pos h];simp[mZ,h]
 ·rw[List.getElem?_eq_none (by simp;omega),List.getElem?_eq_none (by rw[nG];omega)]
theorem yU {G:Nat->Id} {n i:Nat} (h:i<n):(mZ G n n)[i]? =some [.ptr (G i) 0 0]:=by simp[mZ,h]
theorem Nn {G:Nat->Id} {n k:Nat} (h:k<n):(mZ G n k).set k [.ptr (G k) 0 0]=mZ G n (k+1):=by
 refine List.ext_getElem? fun i=>?_
 rw[List.getElem?_set,nG]
 by_cases hi:k=i
 ·subst hi;rw[if_pos rfl,if_pos h];simp[mZ,h]
 ·rw[if_neg hi]
  by_cases fZ:i<n
  ·simp only[mZ,List.getElem?_map,List.getElem?_range fZ,Option.map_some]
   by_cases Af:i<k
   ·rw[if_pos Af,if_pos ah]
   ·rw[if_neg Af,if_neg ah]
  ·rw[List.getElem?_eq_none (by rw[nG];omega),List.getElem?_eq_none (by rw[nG];omega)]
end Go.Proofs.YtgoljkjaameagaaGreat.V

namespace Go.Proofs.YtgoljkjaameagaaGreat.V
open Go.RowKit
attribute [local irreducible] dK wpOps gw Call
attribute [local go_sem] aM fE eM fV fS dc upd cr K.av cI AV.cells AV.cell rowOf rowsOf part ld rowAt bE cj dy dS gU bJ cY ee fQ e6 dp dX cW cV dI dJ bP bc cL bL cP cN dV dY dW cK bU cX dU bK aO cR cC gT bw cG bQ aY dj aZ dz AV.undef bD bG dM dQ dE dG cE ec eh cz ea dZ cQ cU List.getD_cons_zero List.getD_cons_succ List.getD_nil List.all_cons List.all_nil Bool.and_true Bool.true_and Bool.and_self Bool.not_true Bool.not_false Option.map_some Option.map_none Option.bind_some Option.bind_none List.length_cons List.length_nil List.take_succ_cons List.take_zero List.take_nil List.drop_succ_cons List.drop_zero List.drop_nil List.head?_cons List.map_cons List.map_nil List.getElem?_cons_zero List.getElem?_cons_succ List.cons_append List.nil_append List.append_nil List.length_map List.set_cons_zero List.set_cons_succ Nat.reduceMul eq_self Int.toNat_natCast Int.natCast_nonneg and_self true_and and_true decide_true decide_false Bool.false_eq_true Nat.zero_add Nat.add_zero List.contains_cons List.contains_nil Bool.or_false Bool.false_or beq_self_eq_true Nat.reduceBEq ne_eq not_true_eq_false not_false_eq_true Id.mk.injEq false_and and_false Nat.reduceLT Int.reduceLE Int.reduceLT Int.reduceToNat Int.reduceNeg Int.reduceAdd Nat.le_refl List.length_append beq_true beq_false Bool.not_eq_eq_eq_not or_false false_or dH aj ar aH bh bz ck aV bd aX bf cJ bB
theorem ib {o:Id} {a:Nat} (h:o.site=a) {b v:Nat} (nV:(a==b)=false):(o=⟨b,v⟩)=False/\((⟨b,v⟩:Id)=o)=False:=by
 have h1:=Cd h (v:=v) nV
 refine⟨h1,?_⟩
 simp only[eq_iff_iff,iff_false]at h1 ⊢
 exact fun h=>h1 h.symm
theorem xP (cnt:Nat) (uF:1<=cnt) (hn:cnt<=1048576) (bs:List PB) (hb:∀b∈bs,b.a<cnt/\b.b<cnt) (nW:bs.length<=1048576):au Tryz.prog 320 [.int .i64 cnt,.sl (bs.map aD)] (.sl ((fY cnt (eL bs)).map CC)):=by
 intro n0
 refine KG RH rfl fun hl=>?_
 try simp only[q]
 clear hl
 have kb:(0:Int)<=(cnt:Int):=ah
 have qV:(cnt:Int)<=((16777216:Nat):Int):=ah
 obtain⟨G,hG⟩:∃G:Nat->Id,G=fun k=>⟨320005004,n0+3+4*k+2⟩:=⟨_,rfl⟩
 have Xl:∀k,(G k).site=320005004:=fun k=>by rw[hG]
 have YV:∀k,(G k).bj=n0+3+4*k+2:=fun k=>by rw[hG]
 have YT:∀i j,i≠j->(G i=G j)=False:=fun i j h=>by
  simp only[eq_iff_iff,iff_false]
  intro he
  have h1:=YV i
  rw[he,YV j]at h1
  omega
 have OS:∀i s v,(320005004==s)=false->(G i=⟨s,v⟩)=False:=fun i s v h=>Cd (Xl i) h
 have hz:=Kd G cnt
 (try((repeat(revert hN;revert N;apply Pn.out));refine wk (tw @kb (tw @qV (tw @Int.le_refl @hz))) ?_;(repeat(refine Pn.mk ?_;intro N hN))))
 refine aQ (fun n env st=>∃k:Nat,n=(cnt)-k/\k<=(cnt)/\env 21=.int .i64 (k:Int)/\st.get ⟨320001001,n0+1⟩=some ⟨true,1,mZ G cnt k⟩/\(st.next=n0+3+4*k/\∀j:Nat,j<k->st.get (G j)=some ⟨true,2,[[.iA,.int .i64 (j:Int)]]⟩)) (cnt) ⟨0,ah,ah,sl @hz,sl @hz,⟨rfl,fun j hj=>ah⟩⟩ ?_
 rintro n_a env_a st_a ⟨k,rfl,ale,a21,ag0,ke⟩ dv
 have a0:=dv 0 (by kernel_rfl);have a1:=dv 1 (by kernel_rfl);have a5:=dv 5 (by kernel_rfl);have Rr:=dv 19 (by kernel_rfl);have a20:=dv 20 (by kernel_rfl)
 simp only[go_sem, ↓reduceIte,Nat.reduceEqDiff,Nat.reduceAdd,Nat.reduceSub,Nat.reduceLeDiff,reduceCtorEq,hz]at a0 a1 a5 Rr a20
 clear dv
 obtain⟨ke,nP⟩:=ke
 by_cases hk:(k:Int)<(cnt:Int)
 ·have cq:∀{e:Env} {gg:Rows} {nx:Nat},(e 21=.int .i64 (IntKind.i64.wrap ((k:Int)+1)))->(gg ⟨320001001,n0+1⟩=some ⟨true,1,mZ G cnt (k+1)⟩)->(nx=n0+3+4*(k+1)/\∀j:Nat,j<(k+1)->gg (G j)=some ⟨true,2,[[.iA,.int .i64 (j:Int)]]⟩)->∃m0,m0<(cnt)-k/\∃k:Nat,m0=(cnt)-k/\k<=(cnt)/\e 21=.int .i64 (k:Int)/\gg ⟨320001001,n0+1⟩=some ⟨true,1,mZ G cnt k⟩/\(nx=n0+3+4*k/\∀j:Nat,j<k->gg (G j)=some ⟨true,2,[[.iA,.int .i64 (j:Int)]]⟩):=fun x1 x2 x3=>⟨_,ah,k+1,rfl,ah,(by rw[x1,ay ah]),x2,x3⟩
  have fy:k<cnt:=ah
  have tl:=nG G cnt k
  have eb:=Nn (G:=G) fy
  have eP:(mZ G cnt k)[k]? =some [.iA]:=by simp[mZ,fy]
  have Xj:(⟨320005004,st_a.next+1+1⟩:Id)=G k:=by rw[hG,ke]
  have hGf:∀j,j<k->(G j=G k)=False:=fun j hj=>YT j k ah
  have Bw:∀j,(G j=(⟨320001001,n0+1⟩:Id))=False:=fun j=>OS j _ _ (by decide)
  have FY:∀j,((⟨320001001,n0+1⟩:Id)=G j)=False:=fun j=>by
   have:=Bw j
   simp only[eq_iff_iff,iff_false]at this ⊢
   exact fun h=>this h.symm
  (try((repeat(revert hN;revert N;apply Pn.out));refine wk (tw @a21 (tw @ag0 (tw @a0 (tw @a1 (tw @a5 (tw @Rr (tw @a20 (tw @hk (tw @tl (tw @Xj (tw @Bw (tw @FY (tw @eb @eP))))))))))))) ?_;(repeat(refine Pn.mk ?_;intro N hN))))
  refine cq ?_ ?_ (by
   refine⟨by(try dsimp only)<;>omega,fun j hj=>?_⟩
   by_cases Ah:j=k
   ·subst Ah;simp only[go_sem, ↓reduceIte,Nat.reduceEqDiff,Nat.reduceAdd,Nat.reduceSub,Nat.reduceLeDiff,reduceCtorEq,Xj,Bw,FY]
   ·have hold:=nP j ah
    have iD:=hGf j ah
    simp only[go_sem, ↓reduceIte,Nat.reduceEqDiff,Nat.reduceAdd,Nat.reduceSub,Nat.reduceLeDiff,reduceCtorEq,Xj,Bw,FY,iD,hold])
  all_goals simp only[go_sem, ↓reduceIte,Nat.reduceEqDiff,Nat.reduceAdd,Nat.reduceSub,Nat.reduceLeDiff,reduceCtorEq,a21,ag0,a0,a1,a5,Rr,a20,Xj,Bw,FY,eb]
 have lj:cnt=k:=ah
 subst lj
 (try((repeat(revert hN;revert N;apply Pn.out));refine wk (tw @a21 (tw @ag0 (tw @a0 (tw @a1 (tw @a5 (tw @Rr (tw @a20 @hk))))))) ?_;(repeat(refine Pn.mk ?_;intro N hN))))
 refine aQ (fun n env st=>∃i:Nat,n=(bs.length)-i/\i<=(bs.length)/\env 33=.int .i64 (i:Int)/\st.get ⟨320001001,n0+1⟩=some ⟨true,1,mZ G cnt cnt⟩/\(n0+3+4*cnt<=st.next)/\(∃px,oG cnt px (eL (bs.take i))/\wj st.get G cnt px)) (bs.length) ⟨0,ah,ah,sl (tw @a21 (tw @ag0 (tw @a0 (tw @a1 (tw @a5 (tw @Rr @a20)))))),sl (tw @a21 (tw @ag0 (tw @a0 (tw @a1 (tw @a5 (tw @Rr @a20)))))),aT,⟨fun _=>none,oG.start cnt,nP⟩⟩ ?_
 rintro n_b env_b st_b ⟨i,rfl,ble,nR,bg0,bI0,bI1⟩ eI
 have b0:=eI 0 (by kernel_rfl);have b1:=eI 1 (by kernel_rfl);have b5:=eI 5 (by kernel_rfl);have zO:=eI 31 (by kernel_rfl);have nJ:=eI 32 (by kernel_rfl)
 simp only[go_sem, ↓reduceIte,Nat.reduceEqDiff,Nat.reduceAdd,Nat.reduceSub,Nat.reduceLeDiff,reduceCtorEq,a21,ag0,a0,a1,a5,Rr,a20]at b0 b1 b5 zO nJ
 clear eI
 obtain⟨px,N7,Xk⟩:=bI1
 have tl:=nG G cnt cnt
 have Vg:∀j v,(G j=(⟨320009002,v⟩:Id))=False:=fun j v=>OS j _ v (by decide)
 have Bw:∀j v,(G j=(⟨320001001,v⟩:Id))=False:=fun j v=>OS j _ v (by decide)
 have FY:∀j v,((⟨320001001,v⟩:Id)=G j)=False:=fun j v=>by
  have:=Bw j v
  simp only[eq_iff_iff,iff_false]at this ⊢
  exact fun h=>this h.symm
 have hGn:∀j,j<cnt->(G j).bj<st_b.next:=fun j hj=>by rw[YV];omega
 by_cases hi:(i:Int)<(bs.length:Int)
 ·have eZ:∀{e:Env} {gg:Rows} {nx:Nat},(e 33=.int .i64 (IntKind.i64.wrap ((i:Int)+1)))->(gg ⟨320001001,n0+1⟩=some ⟨true,1,mZ G cnt cnt⟩)->(n0+3+4*cnt<=nx)->(∃px,oG cnt px (eL (bs.take (i+1)))/\wj gg G cnt px)->∃m0,m0<(bs.length)-i/\∃i:Nat,m0=(bs.length)-i/\i<=(bs.length)/\e 33=.int .i64 (i:Int)/\gg ⟨320001001,n0+1⟩=some ⟨true,1,mZ G cnt cnt⟩/\(n0+3+4*cnt<=nx)/\(∃px,oG cnt px (eL (bs.take i))/\wj gg G cnt px):=fun x1 x2 x3 x4=>⟨_,ah,i+1,rfl,ah,(by rw[x1,ay ah]),x2,x3,x4⟩
  have fZ:i<bs.length:=ah
  have jF:(bs.map aD)[i]? =some (aD bs[i]):=by simp[fZ]
  have I5:=hb _ (List.getElem_mem fZ)
  have nj:bs.take (i+1)=bs.take i++[bs[i]]:=List.take_succ_eq_append_getElem fZ
  have mH:eL (bs.take (i+1))=eX (eL (bs.take i)) bs[i]:=by rw[nj,xY]
  have hL:=vP (bs.take i)
  generalize eL (bs.take i)=L at *
  generalize bs[i]=b at *
  have gA:=yU (G:=G) I5.1
  have gB:=yU (G:=G) I5.2
  have ij:(b.a:Int)<(cnt:Int):=ah
  have fR:(b.b:Int)<(cnt:Int):=ah
  (try((repeat(revert hN;revert N;apply Pn.out));refine wk (tw @nR (tw @bg0 (tw @b0 (tw @b1 (tw @b5 (tw @zO (tw @nJ (tw @hi (tw @jF (tw @aD.eq_1 (tw @gA (tw @gB (tw @ij (tw @fR @tl)))))))))))))) ?_;(repeat(refine Pn.mk ?_;intro N hN))))
  refine Hh (fun e s=>e 0=.int .i64 cnt/\e 1=.sl (bs.map aD)/\e 5=.own ⟨320001001,n0+1⟩ 0 cnt/\e 31=.sl (bs.map aD)/\e 32=.int .i64 bs.length/\e 33=.int .i64 i/\e 9=.ptr (G (L b.a)) 0 0/\e 10=.ptr (G (L b.b)) 0 0/\(∀j:Id,j.bj<st_b.next->s.get j=st_b.get j)/\st_b.next<=s.next) ?_ ?_
  ·rintro e1 s1 ⟨m0,m1,m5,m31,m32,m33,m9,m10,mf,mn⟩
   refine hN _ _ ?_
   clear hN N
   have mG:wj s1.get G cnt px:=Xk.frame fun k hk=>mf _ (hGn k hk)
   have mt:=(mf ⟨320001001,n0+1⟩ aT).trans bg0
   have Zv:L b.a<cnt:=Nat.lt_of_le_of_lt (hL.le _) I5.1
   have VM:L b.b<cnt:=Nat.lt_of_le_of_lt (hL.le _) I5.2
   have ra:=mG _ Zv
   have rb:=mG _ VM
   rw[mD (N7.root hL Zv (hL.idem _))]at ra
   rw[mD (N7.root hL VM (hL.idem _))]at rb
   have put:∀(g':Rows) (lo hi:Nat),hi<cnt->g' (G hi)=some ⟨true,2,[[.ptr (G lo) 0 0,.int .i64 (hi:Int)]]⟩->(∀k,k≠hi->k<cnt->g' (G k)=s1.get (G k))->wj g' G cnt (fun k=>if k=hi then some lo else px k):=fun g' lo hi _ h1 h2 k hk=>by
    by_cases N4:k=hi
    ·subst N4;rw[h1,vH (j:=lo) (if_pos rfl)]
    ·rw[h2 k N4 hk,mG k hk]
     unfold uA
     simp only[if_neg N4]
   rcases Nat.lt_trichotomy (L b.a) (L b.b)with ei|heq|ei
   ·have SD:(L b.a:Int)<(L b.b:Int):=ah
    have hj:=N7.join hL b ah
    rw[Nat.max_eq_right ah,Nat.min_eq_left ah,<-mH]at hj
    (try((repeat(revert hN;revert N;apply Pn.out));refine wk (tw @m0 (tw @m1 (tw @m5 (tw @m31 (tw @m32 (tw @m33 (tw @m9 (tw @m10 (tw @ra (tw @rb @SD)))))))))) ?_;(repeat(refine Pn.mk ?_;intro N hN))))
    refine eZ ?_ ?_ aT (⟨_,hj,put _ _ _ VM (sd @Nat.zero_add) (fun k hk _=>by
     have iD:=YT k _ hk
     simp only[go_sem, ↓reduceIte,Nat.reduceEqDiff,Nat.reduceAdd,Nat.reduceSub,Nat.reduceLeDiff,reduceCtorEq,iD])⟩)
    all_goals simp only[go_sem, ↓reduceIte,Nat.reduceEqDiff,Nat.reduceAdd,Nat.reduceSub,Nat.reduceLeDiff,reduceCtorEq,m0,m1,m5,m31,m32,m33,mt,Bw,FY]
   ·have uF:¬(L b.a:Int)<(L b.b:Int):=ah
    have Ga:¬(L b.b:Int)<(L b.a:Int):=ah
    have Pe:=BJ heq
    rw[Pe]at mH
    (try((repeat(revert hN;revert N;apply Pn.out));refine wk (tw @m0 (tw @m1 (tw @m5 (tw @m31 (tw @m32 (tw @m33 (tw @m9 (tw @m10 (tw @ra (tw @rb (tw @uF @Ga))))))))))) ?_;(repeat(refine Pn.mk ?_;intro N hN))))
    refine eZ ?_ ?_ aT (⟨_,mH▸N7,mG.frame fun k hk=>rfl⟩)
    all_goals simp only[go_sem, ↓reduceIte,Nat.reduceEqDiff,Nat.reduceAdd,Nat.reduceSub,Nat.reduceLeDiff,reduceCtorEq,m0,m1,m5,m31,m32,m33,mt]
   ·have SD:(L b.b:Int)<(L b.a:Int):=ah
    have uF:¬(L b.a:Int)<(L b.b:Int):=ah
    have hj:=N7.join hL b ah
    rw[Nat.max_eq_left ah,Nat.min_eq_right ah,<-mH]at hj
    (try((repeat(revert hN;revert N;apply Pn.out));refine wk (tw @m0 (tw @m1 (tw @m5 (tw @m31 (tw @m32 (tw @m33 (tw @m9 (tw @m10 (tw @ra (tw @rb (tw @SD @uF))))))))))) ?_;(repeat(refine Pn.mk ?_;intro N hN))))
    refine eZ ?_ ?_ aT (⟨_,hj,put _ _ _ Zv (sd @Nat.zero_add) (fun k hk _=>by
     have iD:=YT k _ hk
     simp only[go_sem, ↓reduceIte,Nat.reduceEqDiff,Nat.reduceAdd,Nat.reduceSub,Nat.reduceLeDiff,reduceCtorEq,iD])⟩)
    all_goals simp only[go_sem, ↓reduceIte,Nat.reduceEqDiff,Nat.reduceAdd,Nat.reduceSub,Nat.reduceLeDiff,reduceCtorEq,m0,m1,m5,m31,m32,m33,mt,Bw,FY]
  ·intro N hN
   refine fD ?_ ?_<;>(try((repeat(revert hN;revert N;apply Pn.out));refine wk (tw @nR (tw @bg0 (tw @b0 (tw @b1 (tw @b5 (tw @zO (tw @nJ (tw @hi (tw @jF (tw @aD.eq_1 (tw @gA (tw @gB (tw @ij (tw @fR @tl)))))))))))))) ?_;(repeat(refine Pn.mk ?_;intro N hN))))<;>(try refine fD ?_ ?_)<;>(try((repeat(revert hN;revert N;apply Pn.out));refine wk (tw @nR (tw @bg0 (tw @b0 (tw @b1 (tw @b5 (tw @zO (tw @nJ (tw @hi (tw @jF (tw @aD.eq_1 (tw @gA (tw @gB (tw @ij (tw @fR @tl)))))))))))))) ?_;(repeat(refine Pn.mk ?_;intro N hN))))<;>(try refine fD ?_ ?_)<;>(try((repeat(revert hN;revert N;apply Pn.out));refine wk (tw @nR (tw @bg0 (tw @b0 (tw @b1 (tw @b5 (tw @zO (tw @nJ (tw @hi (tw @jF (tw @aD.eq_1 (tw @gA (tw @gB (tw @ij (tw @fR @tl)))))))))))))) ?_;(repeat(refine Pn.mk ?_;intro N hN))))
   all_goals
    refine .inr (aI _ _ _ _ _ (fun r σ1 hq=>?_) (Bl G cnt px L N7 b.a I5.1 _ (Xk.frame fun k hk=>sd @Vg)))
    obtain⟨g1,x1⟩:=σ1
    obtain⟨rfl,CG,Jc⟩:=hq
    (try dsimp only at CG Jc)
    subst CG
    refine hN _ _ ?_
    clear hN N
    (try((repeat(revert hN;revert N;apply Pn.out));refine wk (tw @nR (tw @bg0 (tw @b0 (tw @b1 (tw @b5 (tw @zO (tw @nJ (tw @hi (tw @jF (tw @aD.eq_1 (tw @gA (tw @gB (tw @ij (tw @fR @tl)))))))))))))) ?_;(repeat(refine Pn.mk ?_;intro N hN))))
    refine .inr (aI _ _ _ _ _ (fun r σ1 hq=>?_) (Bl G cnt px L N7 b.b I5.2 _ (Xk.frame fun k hk=>sd @Vg)))
    obtain⟨g1,x2⟩:=σ1
    obtain⟨rfl,CG,nX⟩:=hq
    (try dsimp only at CG nX)
    subst CG
    refine hN _ _ ?_
    clear hN N
    (try((repeat(revert hN;revert N;apply Pn.out));refine wk (tw @nR (tw @bg0 (tw @b0 (tw @b1 (tw @b5 (tw @zO (tw @nJ (tw @hi (tw @jF (tw @aD.eq_1 (tw @gA (tw @gB (tw @ij (tw @fR @tl)))))))))))))) ?_;(repeat(refine Pn.mk ?_;intro N hN))))
    exact⟨sd (tw @nR (tw @bg0 (tw @b0 (tw @b1 (tw @b5 (tw @zO @nJ)))))),sd (tw @nR (tw @bg0 (tw @b0 (tw @b1 (tw @b5 (tw @zO @nJ)))))),sd (tw @nR (tw @bg0 (tw @b0 (tw @b1 (tw @b5 (tw @zO @nJ)))))),sd (tw @nR (tw @bg0 (tw @b0 (tw @b1 (tw @b5 (tw @zO @nJ)))))),sd (tw @nR (tw @bg0 (tw @b0 (tw @b1 (tw @b5 (tw @zO @nJ)))))),sd (tw @nR (tw @bg0 (tw @b0 (tw @b1 (tw @b5 (tw @zO @nJ)))))),sd (tw @nR (tw @bg0 (tw @b0 (tw @b1 (tw @b5 (tw @zO @nJ)))))),sd (tw @nR (tw @bg0 (tw @b0 (tw @b1 (tw @b5 (tw @zO @nJ)))))),fun j hj=>by
     have hv:=db hj
     simp only[go_sem, ↓reduceIte,Nat.reduceEqDiff,Nat.reduceAdd,Nat.reduceSub,Nat.reduceLeDiff,reduceCtorEq,hv],aT⟩
 have mb:i=bs.length:=ah
 subst mb
 rw[List.take_length]at N7
 have hL:=vP bs
 generalize eL bs=L at *
 (try((repeat(revert hN;revert N;apply Pn.out));refine wk (tw @nR (tw @bg0 (tw @b0 (tw @b1 (tw @b5 (tw @zO (tw @nJ (tw @hi @tl)))))))) ?_;(repeat(refine Pn.mk ?_;intro N hN))))
 have l0:lS 0 L=[]:=rfl
 have oS:(none:Option Nat).isSome=false:=rfl
 have oT:∀a:Nat,(some a).isSome=true:=fun _=>rfl
 refine aQ (fun n env st=>∃x:Nat,n=(cnt)-x/\x<=(cnt)/\env 81=.int .i64 (x:Int)/\st.get ⟨320001001,n0+1⟩=some ⟨true,1,mZ G cnt cnt⟩/\st.get ⟨320017000,st_b.next+1+1⟩=some ⟨true,mI.lq,lS x L⟩/\(st_b.next+3<=st.next/\wj st.get G cnt px)/\((x=0/\env 11=.bI)∨∃o:Id,env 11=.own o 0 (leads x L).length/\NO st.get o (kg x L) st.next)) (cnt) ⟨0,ah,ah,sl (tw @nR (tw @bg0 (tw @b0 (tw @b1 (tw @b5 (tw @zO (tw @nJ @l0))))))),sl (tw @nR (tw @bg0 (tw @b0 (tw @b1 (tw @b5 (tw @zO (tw @nJ @l0))))))),sl (tw @nR (tw @bg0 (tw @b0 (tw @b1 (tw @b5 (tw @zO (tw @nJ @l0))))))),⟨aT,Xk.frame fun k hk=>by(have iD:=OS k 320017000 (st_b.next+1+1) (by decide));simp only[go_sem, ↓reduceIte,Nat.reduceEqDiff,Nat.reduceAdd,Nat.reduceSub,Nat.reduceLeDiff,reduceCtorEq,iD]⟩,.inl ⟨rfl,sd @Nat.zero_add⟩⟩ ?_
 rintro n_c env_c st_c ⟨x,rfl,cle,c81,cg0,cg1,cI0,cI1⟩ jf
 have rI:=jf 12 (by kernel_rfl);have Ot:=jf 79 (by kernel_rfl);have Ou:=jf 80 (by kernel_rfl)
 simp only[go_sem, ↓reduceIte,Nat.reduceEqDiff,Nat.reduceAdd,Nat.reduceSub,Nat.reduceLeDiff,reduceCtorEq,nR,bg0,b0,b1,b5,zO,nJ,l0]at rI Ot Ou
 clear jf
 obtain⟨qx,UT⟩:=cI0
 have Se:∀j v,(G j=(⟨320017000,v⟩:Id))=False:=fun j v=>OS j _ v (by decide)
 have Sa:∀j v,(G j=(⟨320025002,v⟩:Id))=False:=fun j v=>OS j _ v (by decide)
 have Sc:∀j v,(G j=(⟨320025001,v⟩:Id))=False:=fun j v=>OS j _ v (by decide)
 have Sd:∀j v,(G j=(⟨320026007,v⟩:Id))=False:=fun j v=>OS j _ v (by decide)
 have Sb:∀j v,(G j=(⟨320026008,v⟩:Id))=False:=fun j v=>OS j _ v (by decide)
 by_cases hx:(x:Int)<(cnt:Int)
 ·have hZ:∀{e:Env} {gg:Rows} {nx:Nat},(e 81=.int .i64 (IntKind.i64.wrap ((x:Int)+1)))->(gg ⟨320001001,n0+1⟩=some ⟨true,1,mZ G cnt cnt⟩)->(gg ⟨320017000,st_b.next+1+1⟩=some ⟨true,mI.lq,lS (x+1) L⟩)->(st_b.next+3<=nx/\wj gg G cnt px)->(((x+1)=0/\e 11=.bI)∨∃o:Id,e 11=.own o 0 (leads (x+1) L).length/\NO gg o (kg (x+1) L) nx)->∃m0,m0<(cnt)-x/\∃x:Nat,m0=(cnt)-x/\x<=(cnt)/\e 81=.int .i64 (x:Int)/\gg ⟨320001001,n0+1⟩=some ⟨true,1,mZ G cnt cnt⟩/\gg ⟨320017000,st_b.next+1+1⟩=some ⟨true,mI.lq,lS x L⟩/\(st_b.next+3<=nx/\wj gg G cnt px)/\((x=0/\e 11=.bI)∨∃o:Id,e 11=.own o 0 (leads x L).length/\NO gg o (kg x L) nx):=fun x1 x2 x3 x4 x5=>⟨_,ah,x+1,rfl,ah,(by rw[x1,ay ah]),x2,x3,x4,x5⟩
  have Uz:x<cnt:=ah
  have gX:=yU (G:=G) Uz
  have hlx:L x<cnt:=Nat.lt_of_le_of_lt (hL.le _) Uz
  have ra:=UT _ hlx
  rw[mD (N7.root hL hlx (hL.idem _))]at ra
  have ik:=kj x L
  (try((repeat(revert hN;revert N;apply Pn.out));refine wk (tw @c81 (tw @cg0 (tw @cg1 (tw @rI (tw @Ot (tw @Ou (tw @hx (tw @gX @tl)))))))) ?_;(repeat(refine Pn.mk ?_;intro N hN))))
  refine .inr (aI _ _ _ _ _ (fun r σ1 hq=>?_) (Bl G cnt px L N7 x Uz _ (UT.frame fun k hk=>sd @Nat.zero_add)))
  obtain⟨g1,x1⟩:=σ1
  obtain⟨rfl,CG,Jc⟩:=hq
  (try dsimp only at CG Jc)
  subst CG
  refine hN _ _ ?_
  clear hN N
  by_cases hr:L x=x
  ·rw[hr]at ra ⊢
   have mj:=Jw hr
   have XI:(leads (x+1) L).length=(leads x L).length+1:=by rw[iz,if_pos hr];simp
   have Ut:=Gq hr
   have XC:=FV hL hr
   rcases cI1 with⟨rfl,oW⟩|⟨o,oW,cS⟩
   ·have ZZ:lS 1 L=[[.int .i64 ((0:Nat):Int),.int .i64 ((0:Nat):Int)]]:=Ut
    (try((repeat(revert hN;revert N;apply Pn.out));refine wk (tw @c81 (tw @cg0 (tw @cg1 (tw @rI (tw @Ot (tw @Ou (tw @oW (tw @ra (tw @mj (tw @l0 (tw @oS (tw @oT (tw @Bool.not_false @Bool.not_true))))))))))))) ?_;(repeat(refine Pn.mk ?_;intro N hN))))
    refine hZ ?_ ?_ ?_ (by(try dsimp only);exact⟨ah,UT.frame fun k hk=>sd (tw @Se (tw @Sa (tw @Sb (tw @Sc @Sd))))⟩) (.inr ⟨⟨320025002,x1+1+1+1+1⟩,by simp only[go_sem, ↓reduceIte,Nat.reduceEqDiff,Nat.reduceAdd,Nat.reduceSub,Nat.reduceLeDiff,reduceCtorEq,XI];rfl,by rw[XC];exact OP (v':=x1+1+1+1+1+1) (sd @Nat.zero_add) (sd @eN.eq_1) aT aT⟩)
    all_goals simp only[go_sem, ↓reduceIte,Nat.reduceEqDiff,Nat.reduceAdd,Nat.reduceSub,Nat.reduceLeDiff,reduceCtorEq,c81,cg0,cg1,rI,Ot,Ou,ZZ]
   ·obtain⟨rows,wI,pg,k8⟩:=cS.new x
    rw[rV]at pg
    have wJ:o.site=320025002:=by obtain⟨_,_,_,_,_,_,h,_⟩:=cS;exact h
    have sC:o.bj<x1:=by obtain⟨_,_,_,_,_,_,_,h⟩:=cS;omega
    have r4:=db sC
    have VY:=ib (o:=o) wJ (b:=320017000) (v:=st_b.next+1+1) (by decide)
    have Um:=ib (o:=o) wJ (b:=320001001) (v:=n0+1) (by decide)
    have Sf:∀k,(G k=o)=False:=fun k=>by simp only[eq_iff_iff,iff_false];intro h;have h1:=Xl k;rw[h,wJ]at h1;cases h1
    have tZ:(rows++[[AV.bI]])[(leads x L).length]? =some [.bI]:=by rw[<-pg];simp
    have vJ:∀a:List AV,(rows++[[AV.bI]]).set (leads x L).length a=rows++[a]:=fun a=>by rw[<-pg];simp
    have e1:(leads x L).length+1<=16777216:=ah
    have e2:((leads x L).length:Int)<(((leads x L).length+1:Nat):Int):=ah
    (try((repeat(revert hN;revert N;apply Pn.out));refine wk (tw @c81 (tw @cg0 (tw @cg1 (tw @rI (tw @Ot (tw @Ou (tw @oW (tw @ra (tw @mj (tw @wI (tw @pg (tw @r4 (tw @VY (tw @tZ (tw @vJ (tw @e1 (tw @e2 (tw @oS (tw @oT (tw @Bool.not_false @Bool.not_true)))))))))))))))))))) ?_;(repeat(refine Pn.mk ?_;intro N hN))))
    refine hZ ?_ ?_ ?_ (by(try dsimp only);exact⟨ah,UT.frame fun k hk=>sd (tw @Se (tw @Sa (tw @Sb (tw @Sc (tw @Sd @Sf)))))⟩) (.inr ⟨⟨320025002,x1+1+1+1+1⟩,sd @XI,by rw[XC];exact k8 _ _ (x1+1+1+1+1+1) _ ah aT aT (sd @vJ) (sd @eN.eq_1) (fun j hj hv=>by
     have q1:=db (i:=j) (n:=x1) ah
     have q2:=ib hj (b:=320017000) (v:=st_b.next+1+1) (by decide)
     have q3:(j=o)=False:=by simp only[eq_iff_iff,iff_false];intro h;rw[h,wJ]at hj;cases hj
     simp only[go_sem, ↓reduceIte,Nat.reduceEqDiff,Nat.reduceAdd,Nat.reduceSub,Nat.reduceLeDiff,reduceCtorEq,q1,q2,q3])⟩)
    all_goals simp only[go_sem, ↓reduceIte,Nat.reduceEqDiff,Nat.reduceAdd,Nat.reduceSub,Nat.reduceLeDiff,reduceCtorEq,c81,cg0,cg1,rI,Ot,Ou,Ut,r4,VY,Um]
  ·obtain⟨mj,L9,ei⟩:=Ap hL hr
   obtain⟨VE,XC⟩:=FW hL hr
   have XI:(leads (x+1) L).length=(leads x L).length:=by rw[iz,if_neg hr];simp
   have Pe:=Gp hr
   rcases cI1 with⟨rfl,oW⟩|⟨o,oW,cS⟩
   ·exact absurd (Nat.le_zero.1 (hL.le 0)) hr
   ·obtain⟨rows,id,wI,pg,hrk,hid,LU,hidv,Zb⟩:=cS.add VE x
    rw[rV]at pg
    have wJ:o.site=320025002:=by obtain⟨_,_,_,_,_,_,h,_⟩:=cS;exact h
    have sC:o.bj<x1:=by obtain⟨_,_,_,_,_,_,_,h⟩:=cS;omega
    have r4:=db sC
    have uc:=db (i:=id) (n:=x1) ah
    have jF:(cu L x:Int)<((leads x L).length:Int):=ah
    have VR:=Ek x L (L x)
    have hma:((members x L (L x)).map eN).length=(members x L (L x)).length:=by simp
    have e1:(members x L (L x)).length+1<=16777216:=ah
    have QU:(o=id)=False:=by simp only[eq_iff_iff,iff_false];rintro rfl;rw[LU]at wJ;cases wJ
    have QQ:(id=o)=False:=by simp only[eq_iff_iff,iff_false];rintro rfl;rw[LU]at wJ;cases wJ
    have VY:=ib (o:=o) wJ (b:=320017000) (v:=st_b.next+1+1) (by decide)
    have Um:=ib (o:=o) wJ (b:=320001001) (v:=n0+1) (by decide)
    have hiM:=ib (o:=id) LU (b:=320017000) (v:=st_b.next+1+1) (by decide)
    have hiT:=ib (o:=id) LU (b:=320001001) (v:=n0+1) (by decide)
    have Sf:∀k,(G k=o)=False:=fun k=>by simp only[eq_iff_iff,iff_false];intro h;have h1:=Xl k;rw[h,wJ]at h1;cases h1
    have YU:∀k,(G k=id)=False:=fun k=>by simp only[eq_iff_iff,iff_false];intro h;have h1:=Xl k;rw[h,LU]at h1;cases h1
    (try((repeat(revert hN;revert N;apply Pn.out));refine wk (tw @c81 (tw @cg0 (tw @cg1 (tw @rI (tw @Ot (tw @Ou (tw @oW (tw @ra (tw @mj (tw @L9 (tw @wI (tw @pg (tw @hrk (tw @hid (tw @r4 (tw @uc (tw @jF (tw @hma (tw @e1 (tw @QU (tw @QQ (tw @VY (tw @Um (tw @hiM (tw @hiT (tw @oS (tw @oT (tw @Bool.not_false @Bool.not_true)))))))))))))))))))))))))))) ?_;(repeat(refine Pn.mk ?_;intro N hN))))
    refine hZ ?_ ?_ ?_ (by(try dsimp only);exact⟨ah,UT.frame fun k hk=>sd (tw @Se (tw @Sa (tw @Sb (tw @Sc (tw @Sd (tw @Sf @YU))))))⟩) (.inr ⟨o,sd (tw @XI @oW),by rw[XC];exact Zb _ (x1+1+1) _ ah aT (sd @Nat.zero_add) (sd (tw @r4 (tw @uc (tw @QU @QQ)))) (fun j hj hv nL=>by
     have q1:=db (i:=j) (n:=x1) ah
     have q2:=ib hj (b:=320017000) (v:=st_b.next+1+1) (by decide)
     have q3:(j=o)=False:=by simp only[eq_iff_iff,iff_false];intro h;rw[h,wJ]at hj;cases hj
     simp only[go_sem, ↓reduceIte,Nat.reduceEqDiff,Nat.reduceAdd,Nat.reduceSub,Nat.reduceLeDiff,reduceCtorEq,q1,q2,q3,nL])⟩)
    all_goals simp only[go_sem, ↓reduceIte,Nat.reduceEqDiff,Nat.reduceAdd,Nat.reduceSub,Nat.reduceLeDiff,reduceCtorEq,c81,cg0,cg1,rI,Ot,Ou,Pe,r4,uc,VY,Um,hiM,hiT]
 have hxc:x=cnt:=ah
 rcases cI1 with⟨h0,_⟩|⟨o,oW,rows,ids,wI,hR,_,_,_,_⟩
 ·omega
 have pg:=hR.len
 rw[rV]at pg
 (try((repeat(revert hN;revert N;apply Pn.out));refine wk (tw @c81 (tw @cg0 (tw @cg1 (tw @rI (tw @Ot (tw @Ou (tw @hx (tw @oW @wI)))))))) ?_;(repeat(refine Pn.mk ?_;intro N hN))))
 refine yL (.inl rfl) (by simp only[go_sem, ↓reduceIte,Nat.reduceEqDiff,Nat.reduceAdd,Nat.reduceSub,Nat.reduceLeDiff,reduceCtorEq];rfl) ?_
 rw[qv wI ah (rows':=(fY cnt L).map CC) (by
  rw[List.drop_zero,List.take_of_length_le ah]
  rw[hxc]at hR;exact Mt 3 hR)]
theorem NJ (b:PB) (t:Int):au Tryz.prog 323 [.agg (aD b),.dn [.int .i64 t]] (.bool (decide (b.s<t))):=by
 refine au.body eF rfl fun hl n0=>?_
 clear hl
 (try((repeat(revert hN;revert N;apply Pn.out));refine wk @aD.eq_1 ?_;(repeat(refine Pn.mk ?_;intro N hN))))
 exact bp (b:=decide (b.s<t)) (.inl rfl) (sd @Nat.zero_add) rfl
theorem Al (bs:List PB) (t:Int) (hl:bs.length<=1048576):au Tryz.prog 335 [.sl (bs.map aD),.fn 323 [.dn [.int .i64 t]]] (.int .i64 (k6 (fun b:PB=>decide (b.s<t)) bs)):=
 vM Lk (show nK Tryz.prog 335=some (xW 335 3 true) by kernel_rfl) bs hl 323 _ _ (fun x _=>NJ x t) fun g=>by simp only[aj,ar,aX,Option.map_some]
theorem Lf (bs:List PB) (hp:0<bs.length) (hl:bs.length<=1048576) (σ:aw):
  Call Tryz.prog 322 [.sl (bs.map aD)] σ fun r σ'=>∃o:Id,r=.own o 0 bs.length/\σ'.get o=some ⟨true,3,bs.map aD⟩/\σ.next<=o.bj/\o.bj<σ'.next/\∀i:Id,i.bj<σ.next->σ'.get i=σ.get i:=by
 refine eA eF rfl fun hl=>?_
 clear hl
 have hz:=all_map (l:=bs) Rh
 obtain⟨b,r,rfl⟩:∃b r,bs=b::r:=by
  cases bs with
  |nil=>simp at hp
  |cons b r=>exact⟨b,r,rfl⟩
 have ik:(List.map aD (b::r)).length=(b::r).length:=by simp
 have e1:r.length<=16777215:=by simp at hl;omega
 rw[List.map_cons]at hz ik ⊢
 (try((repeat(revert hN;revert N;apply Pn.out));refine wk (tw @hz (tw @ik @e1)) ?_;(repeat(refine Pn.mk ?_;intro N hN))))
 refine eS (.inl rfl) (vs:=[.own ⟨322003002,σ.next+1+1⟩ 0 (b::r).length]) (by simp only[fM,iU,go_sem, ↓reduceIte,Nat.reduceEqDiff,Nat.reduceAdd,Nat.reduceSub,Nat.reduceLeDiff,reduceCtorEq,List.length_cons]) ⟨⟨322003002,σ.next+1+1⟩,rfl,sd @Nat.zero_add,aT,aT,fun i hi=>?_⟩
 have hv:=db hi
 simp only[go_sem, ↓reduceIte,Nat.reduceEqDiff,Nat.reduceAdd,Nat.reduceSub,Nat.reduceLeDiff,reduceCtorEq,hv]
theorem qj {t:Int} {bs:List PB} {j:Nat} (hj:j<bs.length):aW t (bs.take (j+1))=aW t (bs.take j)++if decide (bs[j].s<t)=true then[]else[bs[j]]:=by
 rw[we t bs j hj]
 congr 1
 by_cases h:bs[j].s<t
 ·rw[if_neg ah,if_pos (decide_eq_true h)]
 ·rw[if_pos ah,if_neg (by simp only[decide_eq_true_eq];exact h)]
theorem wb {t:Int} {bs:List PB} (h:∀b∈bs,¬b.s<t):aW t bs=bs:=by
 unfold aW
 rw[List.filter_eq_self]
 intro b hb
 have:=h b hb
 exact decide_eq_true ah
structure wi (t:Int) (bs:List PB) (j:Nat) (R:List PB):Prop where
 len:R.length=bs.length
 pre:R.take (aW t (bs.take j)).length=aW t (bs.take j)
 post:∀x,j<=x->R[x]? =bs[x]?
 lt:(aW t (bs.take j)).length<j
theorem wi.start {t:Int} {bs:List PB} {i:Nat} (hi:i<bs.length) (hw:bs[i].s<t) (hp:∀x (h:x<i),¬bs[x].s<t):wi t bs (i+1) bs/\(aW t (bs.take (i+1))).length=i:=by
 have h1:aW t (bs.take i)=bs.take i:=wb fun b hb=>by
  obtain⟨x,hx,rfl⟩:=List.getElem_of_mem hb
  rw[List.length_take]at hx
  rw[List.getElem_take]
  exact hp x ah
 have h2:aW t (bs.take (i+1))=bs.take i:=by rw[qj hi,if_pos (decide_eq_true hw),List.append_nil,h1]
 have h3:(bs.take i).length=i:=by rw[List.length_take];omega
 exact⟨⟨rfl,by rw[h2,h3],fun _ _=>rfl,by rw[h2,h3];omega⟩,by rw[h2,h3]⟩
theorem wi.weak {t:Int} {bs R:List PB} {j:Nat} (h:wi t bs j R) (hj:j<bs.length) (hw:bs[j].s<t):wi t bs (j+1) R/\(aW t (bs.take (j+1))).length=(aW t (bs.take j)).length:=by
 have h2:aW t (bs.take (j+1))=aW t (bs.take j):=by rw[qj hj,if_pos (decide_eq_true hw),List.append_nil]
 exact⟨⟨h.len,by rw[h2];exact h.pre,fun x hx=>h.post x ah,by rw[h2];have:=h.lt;omega⟩,by rw[h2]⟩
theorem wi.tf {t:Int} {bs R:List PB} {j:Nat} (h:wi t bs j R) (hj:j<bs.length) (hw:¬bs[j].s<t):wi t bs (j+1) (R.set (aW t (bs.take j)).length bs[j])/\(aW t (bs.take (j+1))).length=(aW t (bs.take j)).length+1:=by
 have h2:aW t (bs.take (j+1))=aW t (bs.take j)++[bs[j]]:=by rw[qj hj,if_neg (by simp only[decide_eq_true_eq];exact hw)]
 have ei:=h.lt
 have hlen:=h.len
 have zu:=h.pre
 generalize hc:(aW t (bs.take j)).length=c at *
 refine⟨⟨by rw[List.length_set];exact hlen,?_,fun x hx=>?_,by rw[h2,List.length_append,hc];simp;omega⟩,by rw[h2,List.length_append,hc];rfl⟩
 ·rw[h2,List.length_append,hc,List.length_singleton,List.take_succ_eq_append_getElem (by rw[List.length_set];omega),List.getElem_set_self,List.take_set_of_le (Nat.le_refl _),zu]
 ·rw[List.getElem?_set_ne ah];exact h.post x ah
theorem wi.at_ {t:Int} {bs R:List PB} {j:Nat} (h:wi t bs j R) (hj:j<bs.length):(R.map aD)[j]? =some (aD bs[j]):=by
 rw[List.getElem?_map,h.post j (Nat.le_refl j),List.getElem?_eq_getElem hj];rfl
theorem FK {p:PB->Bool} {bs:List PB} (h:¬0<=k6 p bs):∀b∈bs,p b=false:=by
 intro b hb
 unfold k6 at h
 split at h
 ·omega
 ·rename_i h1
  rw[List.findIdx_lt_length]at h1
  cases hp:p b
  ·rfl
  ·exact absurd ⟨b,hb,hp⟩ h1
theorem FL {p:PB->Bool} {bs:List PB} (h:0<=k6 p bs):∃i,∃hi:i<bs.length,k6 p bs=(i:Int)/\p bs[i]=true/\∀x (hx:x<i),p (bs[x]'ah)=false:=by
 unfold k6 at h ⊢
 split
 ·rename_i h1
  exact⟨bs.findIdx p,h1,rfl,List.findIdx_getElem,fun x hx=>by simpa using List.not_of_lt_findIdx hx⟩
 ·rename_i h1;rw[if_neg h1]at h;omega
theorem II (bs:List PB) (t:Int) (hl:bs.length<=1048576) (o T:Id) (σ:aw) (ho:σ.get o=some ⟨true,3,bs.map aD⟩) (hT:σ.get T=some ⟨true,1,[[.int .i64 t]]⟩) (sC:o.bj<σ.next) (NR:T.bj<σ.next) (Um:o≠T):
  Call Tryz.prog 321 [.own o 0 bs.length,.fn 323 [.ptr T 0 0]] σ fun r σ'=>∃rows,r=.own o 0 (aW t bs).length/\σ'.get o=some ⟨true,3,rows⟩/\rows.take (aW t bs).length=(aW t bs).map aD/\(aW t bs).length<=rows.length/\σ.next<=σ'.next/\∀i:Id,i.bj<σ.next->i≠o->σ'.get i=σ.get i:=by
 refine eA eF rfl fun kP=>?_
 clear kP
 have E7:=Al bs t hl
 have hzT:∀(g:Rows),g T=some ⟨true,1,[[.int .i64 t]]⟩->V.fz (dH g) 5 (.ptr T 0 0)=some (.dn [.int .i64 t]):=fun g hg=>rT (sz:=1) (rows:=[[.int .i64 t]]) (by simp[dH,hg]) rfl (by simp only[List.drop_zero,aj,ar,aH,Option.map_some])
 have w6:∀(g:Rows),g T=some ⟨true,1,[[.int .i64 t]]⟩->g o=some ⟨true,3,bs.map aD⟩->cZ (dH g) 6 [.own o 0 bs.length,.fn 323 [.ptr T 0 0]]=some [.sl (bs.map aD),.fn 323 [.dn [.int .i64 t]]]:=fun g h1 h2=>by
  have q1:=fB (g:=dH g) (n:=5) (e:=aD) (sz:=3) (len:=bs.length) (l:=bs) (id:=o) (by simp[dH,h2]) rfl fun b=>Bo _ 4 b
  have q2:=hzT g h1
  simp only[aj,ar,q1,cJ,List.all_cons,List.all_nil,AV.cell,Bool.and_true,if_true,q2,Option.map_some]
 have jP:∀(g:Rows),g T=some ⟨true,1,[[.int .i64 t]]⟩->∀b:PB,cZ (dH g) 6 [.agg (aD b),.ptr T 0 0]=some [.agg (aD b),.dn [.int .i64 t]]:=fun g h1 b=>by
  have q3:V.fz (dH g) 6 (.ptr T 0 0)=some (.dn [.int .i64 t]):=rT (sz:=1) (rows:=[[.int .i64 t]]) (by simp[dH,h1]) rfl (by simp only[List.drop_zero,aj,ar,aH,Option.map_some])
  simp only[aj,ar,bd,Bo,q3,Option.map_some]
 (try((repeat(revert hN;revert N;apply Pn.out));refine wk @Nat.zero_add ?_;(repeat(refine Pn.mk ?_;intro N hN))))
 refine .inl ⟨_,au.x E7 (w6 _ hT ho),?_⟩
 refine hN _ _ ?_
 clear hN N
 by_cases h0:0<=k6 (fun b:PB=>decide (b.s<t)) bs
 ·obtain⟨i,hi,F8,hpi,SL⟩:=FL h0
  rw[F8]at *
  have O6:decide ((i:Int)= -1)=false:=decide_eq_false ah
  have Wa:IntKind.i64.wrap ((i:Int)+1)=((i+1:Nat):Int):=ay ah
  obtain⟨dC,vJ⟩:=wi.start (t:=t) hi (by simpa using hpi) (fun x hx=>by simpa using SL x hx)
  (try((repeat(revert hN;revert N;apply Pn.out));refine wk (tw @O6 @Wa) ?_;(repeat(refine Pn.mk ?_;intro N hN))))
  refine aQ (fun m env st=>∃(j:Nat) (R:List PB),m=bs.length-j/\env 6=.int .i64 (j:Int)/\env 5=.int .i64 ((aW t (bs.take j)).length:Int)/\st.get o=some ⟨true,3,R.map aD⟩/\wi t bs j R/\j<=bs.length/\σ.next<=st.next/\∀x:Id,x.bj<σ.next->(x=o)=False->st.get x=σ.get x) (bs.length-(i+1)) ⟨i+1,bs,rfl,sd @Wa,sd @vJ,sd @ho,dC,ah,aT,fun x _ _=>sd @Nat.zero_add⟩ ?_
  rintro m env_b st_b ⟨j,R,rfl,b6,b5,bg,hD,gY,hle,j4⟩ eI
  have b0:=eI 0 (by kernel_rfl)
  have b1:=eI 1 (by kernel_rfl)
  simp only[go_sem, ↓reduceIte,Nat.reduceEqDiff,Nat.reduceAdd,Nat.reduceSub,Nat.reduceLeDiff,reduceCtorEq]at b0 b1
  clear eI
  have bT:=(j4 T NR (by simp only[eq_iff_iff,iff_false];exact fun h=>Um h.symm)).trans hT
  have lI:=db (i:=o) (n:=st_b.next) ah
  have Z8:=db (i:=T) (n:=st_b.next) ah
  have QI:=hD.len
  have Vm:(R.map aD).length=bs.length:=by rw[List.length_map,QI]
  have ei:=hD.lt
  by_cases hj:(j:Int)<(bs.length:Int)
  ·have ga:j<bs.length:=ah
   have y8:=hD.at_ ga
   have SV:=NJ bs[j] t
   have XX:IntKind.i64.wrap ((j:Int)+1)=((j+1:Nat):Int):=ay ah
   have hD1:=hD.weak ga
   have hD2:=hD.tf ga
   generalize bs[j]=b at *
   (try((repeat(revert hN;revert N;apply Pn.out));refine wk (tw @b0 (tw @b1 (tw @b5 (tw @b6 (tw @bg (tw @hj (tw @y8 (tw @aD.eq_1 (tw @lI (tw @Z8 @Vm)))))))))) ?_;(repeat(refine Pn.mk ?_;intro N hN))))
   refine .inl ⟨_,au.x SV (jP _ (sd (tw @Z8 @bT)) b),?_⟩
   refine hN _ _ ?_
   clear hN N
   by_cases hw:b.s<t
   ·obtain⟨YR,YQ⟩:=hD1 hw
    have hd:decide (b.s<t)=true:=decide_eq_true hw
    (try((repeat(revert hN;revert N;apply Pn.out));refine wk (tw @b0 (tw @b1 (tw @b5 (tw @b6 (tw @hd @XX))))) ?_;(repeat(refine Pn.mk ?_;intro N hN))))
    refine⟨_,?_,j+1,R,rfl,sd @XX,sd (tw @b5 @YQ),sd (tw @bg @lI),YR,ah,aT,fun x hx Ak=>?_⟩
    ·omega
    ·have Uv:=db (i:=x) (n:=st_b.next) ah
     have:=j4 x hx Ak
     simp only[go_sem, ↓reduceIte,Nat.reduceEqDiff,Nat.reduceAdd,Nat.reduceSub,Nat.reduceLeDiff,reduceCtorEq,Uv,this]
   ·obtain⟨YR,YQ⟩:=hD2 hw
    have hd:decide (b.s<t)=false:=decide_eq_false hw
    have Ze:((aW t (bs.take j)).length:Int)<(bs.length:Int):=ah
    have hwc:IntKind.i64.wrap (((aW t (bs.take j)).length:Int)+1)=(((aW t (bs.take j)).length+1:Nat):Int):=ay ah
    have eb:(R.map aD).set (aW t (bs.take j)).length [.int .i64 (b.a:Int),.int .i64 (b.b:Int),.int .i64 b.s]=(R.set (aW t (bs.take j)).length b).map aD:=by rw[List.map_set];rfl
    have NW:∃y,(R.map aD)[(aW t (bs.take j)).length]? =some (aD y):=⟨R[(aW t (bs.take j)).length]'ah,by rw[List.getElem?_map,List.getElem?_eq_getElem ah];rfl⟩
    obtain⟨y,NW⟩:=NW
    rw[aD]at NW
    (try((repeat(revert hN;revert N;apply Pn.out));refine wk (tw @b0 (tw @b1 (tw @b5 (tw @b6 (tw @bg (tw @hd (tw @XX (tw @hwc (tw @Ze (tw @eb (tw @NW (tw @lI (tw @Z8 @Vm))))))))))))) ?_;(repeat(refine Pn.mk ?_;intro N hN))))
    refine⟨_,?_,j+1,_,rfl,sd @XX,sd (tw @hwc @YQ),sd @eb,YR,ah,aT,fun x hx Ak=>?_⟩
    ·omega
    ·have Uv:=db (i:=x) (n:=st_b.next) ah
     have:=j4 x hx Ak
     simp only[go_sem, ↓reduceIte,Nat.reduceEqDiff,Nat.reduceAdd,Nat.reduceSub,Nat.reduceLeDiff,reduceCtorEq,Uv,this,Ak]
  ·have gY:j=bs.length:=ah
   subst gY
   have zu:=hD.pre
   rw[List.take_length]at b5 ei zu
   have Ze:((aW t bs).length:Int)<=(bs.length:Int):=ah
   have Xy:(aW t bs).length<=bs.length:=ah
   have rY:(aW t bs).length+(bs.length-(aW t bs).length)=bs.length:=ah
   have vJ:=ot t bs
   (try((repeat(revert hN;revert N;apply Pn.out));refine wk (tw @b0 (tw @b1 (tw @b5 (tw @b6 (tw @bg (tw @hj (tw @Vm (tw @Ze (tw @Xy (tw @rY (tw @Nat.le_refl (tw @Nat.sub_zero (tw @Int.le_refl @lI))))))))))))) ?_;(repeat(refine Pn.mk ?_;intro N hN))))
   refine eS (.inl rfl) (vs:=[.own o 0 (aW t bs).length]) (sd @Nat.zero_add) ⟨_,rfl,by simp only[go_sem, ↓reduceIte,Nat.reduceEqDiff,Nat.reduceAdd,Nat.reduceSub,Nat.reduceLeDiff,reduceCtorEq];rfl,?_,?_,aT,fun x hx Ak=>?_⟩
   ·have hm:List.take (aW t bs).length (List.map aD R)=(aW t bs).map aD:=by rw[<-List.map_take,zu]
    rw[hm,List.append_assoc,List.take_append_of_le_length (by simp),List.take_of_length_le (by simp)]
   ·have hm:List.take (aW t bs).length (List.map aD R)=(aW t bs).map aD:=by rw[<-List.map_take,zu]
    rw[hm]
    simp only[List.length_append,List.length_map]
    omega
   ·have Wb:(x=o)=False:=by simp only[eq_iff_iff,iff_false];exact Ak
    have:=j4 x hx Wb
    simp only[go_sem, ↓reduceIte,Nat.reduceEqDiff,Nat.reduceAdd,Nat.reduceSub,Nat.reduceLeDiff,reduceCtorEq,Wb,this]
 ·have hn:=FK h0
  have dC:=wb (t:=t) (bs:=bs) fun b hb=>by simpa using hn b hb
  have hd:decide (k6 (fun b:PB=>decide (b.s<t)) bs= -1)=true:=decide_eq_true (by
   unfold k6 at h0 ⊢
   split
   ·rename_i h;rw[if_pos h]at h0;omega
   ·rfl)
  (try((repeat(revert hN;revert N;apply Pn.out));refine wk @hd ?_;(repeat(refine Pn.mk ?_;intro N hN))))
  refine eS (.inl rfl) (vs:=[.own o 0 bs.length]) (sd @Nat.zero_add) ⟨bs.map aD,by rw[dC];rfl,sd @ho,by rw[dC,List.take_of_length_le (by simp)],by rw[dC];simp,aT,fun x _ _=>rfl⟩
end Go.Proofs.YtgoljkjaameagaaGreat.V
