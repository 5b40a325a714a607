/- The points next to an assembly, and the first wrong tile, by the reference. -/
import Derived.Test.YtgoljkjaameagaaGreatSdD
import Derived.Test.YtgoljkjaameagaaGreatSdB
import Derived.Test.YtgoljkjaameagaaGreatSdC
import Derived.Maps.RangeRun
import Derived.RangeFuncCalls
import Derived.OrdersIn
import Derived.RangeFuncNested
import Derived.RangeFuncBound
import Derived.RangeFuncLeaves
import Derived.Shelf.Abstract
import Derived.Shelf.RegionOpen
import Derived.WalkKit
import Derived.OwnWalkIn
import Derived.TacticsInMore
import Derived.LoopNIn
import Derived.LoopIn
import Derived.BigQuiet
import Derived.RangeFuncBox
import Derived.RangeFuncWrites
import Derived.Maps.AppendAt
import Derived.Maps.OwnIn
import Derived.Shelf.SlSortCmp.WholeK
import Derived.Shelf.SlSortCmp.NoneTotal
import Derived.Ground.SlsfProg
import Derived.Test.YtgoljkjaameagaaGreatProg
set_option linter.unusedVariables false
set_option linter.unusedSimpArgs false
set_option maxRecDepth 100000
set_option maxHeartbeats 16000000
namespace Go.Proofs.YtgoljkjaameagaaGreat.V
open Go.RowKit
attribute [local irreducible] ek wpOps fK Call
attribute [local go_sem] aI fw eH fE fD dd upd cm K.av cG AV.cells AV.cell rowOf rowsOf part ld rowAt bL bY dx dO gz bE cW dY fC eY dj dS cU cR dG dH bH aZ cJ bG cL cK dQ dU dR cI bJ cV dP bF aL cP cz gy bq cF bI aW dq bm dy AV.undef bw bz dJ dM dD dI cE dX ea cq dW dV cN cQ List.getD_cons_zero List.getD_cons_succ List.getD_nil List.all_cons List.all_nil Bool.and_true Bool.true_and Bool.and_self Bool.not_true Bool.not_false Option.map_some Option.map_none Option.bind_some Option.bind_none List.length_cons List.length_nil List.take_succ_cons List.take_zero List.take_nil List.drop_succ_cons List.drop_zero List.drop_nil List.head?_cons List.map_cons List.map_nil List.getElem?_cons_zero List.getElem?_cons_succ List.cons_append List.nil_append List.append_nil List.length_map List.set_cons_zero List.set_cons_succ Nat.reduceMul eq_self Int.toNat_natCast Int.natCast_nonneg and_self true_and and_true decide_true decide_false Bool.false_eq_true Nat.zero_add Nat.add_zero List.contains_cons List.contains_nil Bool.or_false Bool.false_or beq_self_eq_true Nat.reduceBEq ne_eq not_true_eq_false not_false_eq_true Id.mk.injEq false_and and_false Nat.reduceLT Int.reduceLE Int.reduceLT Int.reduceToNat Int.reduceNeg Int.reduceAdd Nat.le_refl List.length_append beq_true beq_false Bool.not_eq_eq_eq_not or_false false_or dK aq au aH bf bt bZ aU bh aT bc cH bx
def jB (l:List ae) (ps:List ar) (q:ar):List ar:=if AK q=true/\eO l q<0 then qp ps q else ps
def fq (l:List ae) (ps:List ar) (p:ar):Nat->List ar
 |0=>ps
 |d+1=>jB l (fq l ps p d) (bB p d)
def eQ (l:List ae):Nat->List ar
 |0=>[]
 |i+1=>fq l (eQ l i) (aY l i).bj 4
def iQ (l:List ae):List ar:=eQ l l.length
theorem AE {l:List ae} {ps:List ar} (h:nk ps) (q:ar):nk (jB l ps q):=by
 unfold jB;split
 ·exact Lf h q
 ·exact h
theorem rG {l:List ae} {ps:List ar} (h:nk ps) (p:ar):∀d,nk (fq l ps p d)
 |0=>h
 |d+1=>AE (rG h p d) _
theorem rH (l:List ae):∀i,nk (eQ l i)
 |0=>List.Pairwise.nil
 |i+1=>rG (rH l i) _ 4
theorem AD (l:List ae) (ps:List ar) (q:ar):(jB l ps q).length<=ps.length+1:=by
 unfold jB;split
 ·exact Le ps q
 ·omega
theorem rF (l:List ae) (ps:List ar) (p:ar):∀d,(fq l ps p d).length<=ps.length+d
 |0=>Nat.le_refl _
 |d+1=>by
  have:=rF l ps p d
  have:=AD l (fq l ps p d) (bB p d)
  simp only[fq];omega
theorem lu (l:List ae):∀i,(eQ l i).length<=i*4
 |0=>Nat.le_refl _
 |i+1=>by
  have:=lu l i
  have:=rF l (eQ l i) (aY l i).bj 4
  simp only[eQ];omega
theorem wV (l:List ae) (ps:List ar) (p:ar) (x:ar):∀d,x∈fq l ps p d↔x∈ps∨∃k,k<d/\x=bB p (k:Nat)/\AK x=true/\eO l x<0
 |0=>⟨.inl,fun h=>h.elim id fun⟨_,h,_⟩=>absurd h (Nat.not_lt_zero _)⟩
 |d+1=>by
  simp only[fq,jB]
  have ih:=wV l ps p x d
  split
  ·rename_i h
   rw[KN,ih]
   constructor
   ·rintro(rfl|h1|⟨k,h1,h2⟩)
    ·exact .inr ⟨d,Nat.lt_succ_self _,rfl,h⟩
    ·exact .inl h1
    ·exact .inr ⟨k,by omega,h2⟩
   ·rintro(h1|⟨k,h1,h2⟩)
    ·exact .inr (.inl h1)
    ·by_cases hk:k=d
     ·subst hk;exact .inl h2.1
     ·exact .inr (.inr ⟨k,by omega,h2⟩)
  ·rename_i h
   rw[ih]
   constructor
   ·rintro(h1|⟨k,h1,h2⟩)
    ·exact .inl h1
    ·exact .inr ⟨k,by omega,h2⟩
   ·rintro(h1|⟨k,h1,h2⟩)
    ·exact .inl h1
    ·by_cases hk:k=d
     ·subst hk;rw[h2.1]at h2;exact absurd h2.2 h
     ·exact .inr ⟨k,by omega,h2⟩
def Bt (l:List ae) (x:ar):Prop:=AK x=true/\eO l x<0/\∃i d:Nat,i<l.length/\d<4/\x=bB (aY l i).bj d
theorem wW (l:List ae) (x:ar):∀i,x∈eQ l i↔∃j d:Nat,j<i/\d<4/\x=bB (aY l j).bj d/\AK x=true/\eO l x<0
 |0=>⟨fun h=>(by cases h),fun⟨_,_,h,_⟩=>absurd h (Nat.not_lt_zero _)⟩
 |i+1=>by
  simp only[eQ]
  rw[wV,wW l x i]
  constructor
  ·rintro(⟨j,d,h1,h2⟩|⟨d,h1,h2⟩)
   ·exact⟨j,d,by omega,h2⟩
   ·exact⟨i,d,Nat.lt_succ_self _,h1,h2⟩
  ·rintro⟨j,d,h1,h2,h3⟩
   by_cases hj:j=i
   ·subst hj;exact .inr ⟨d,h2,h3⟩
   ·exact .inl ⟨j,d,by omega,h2,h3⟩
theorem zg (l:List ae) (x:ar):x∈iQ l↔Bt l x:=by
 unfold iQ Bt
 rw[wW]
 exact⟨fun⟨j,d,h1,h2,h3,h4,h5⟩=>⟨h4,h5,j,d,h1,h2,h3⟩,fun⟨h4,h5,j,d,h1,h2,h3⟩=>⟨j,d,h1,h2,h3,h4,h5⟩⟩
theorem H7 (l:List ae) (hF:kJ l) (σ:ay):Call Tryz.prog 147 [.dp [.sl (l.map ah)]] σ (SE σ (fun _=>True) (iQ l)):=by
 refine e6 eK rfl fun lf=>?_
 clear lf
 have hR:=hF.Rm
 have Cf:=hF.zW
 (try((repeat(revert hN;revert N;apply Pn.out));refine wk @Nat.zero_add ?_;(repeat(refine Pn.mk ?_;intro N hN))))
 refine aX (fun n env st=>∃i:Nat,n=(l.length)-i/\i<=(l.length)/\env 4=.int .i64 (i:Int)/\(∃o:Id,env 3=.own o 0 (eQ l i).length/\st.get o=some ⟨true,2,(eQ l i).map ai⟩/\o.br<st.next/\σ.next<=o.br/\∀x:Id,x.br<σ.next->st.get x=σ.get x)) (l.length) ⟨0,by omega,by omega,sl @Nat.zero_add,⟨⟨147001000,σ.next+1⟩,by simp only[go_sem, ↓reduceIte,Nat.reduceEqDiff,Nat.reduceAdd,Nat.reduceSub,Nat.reduceLeDiff,reduceCtorEq];rfl,by simp only[go_sem, ↓reduceIte,Nat.reduceEqDiff,Nat.reduceAdd,Nat.reduceSub,Nat.reduceLeDiff,reduceCtorEq];rfl,by(try dsimp only);omega,by(try dsimp only);omega,fun x hx=>by
  have:=dr (i:=x) (n:=σ.next+1) (by omega)
  simp only[go_sem, ↓reduceIte,Nat.reduceEqDiff,Nat.reduceAdd,Nat.reduceSub,Nat.reduceLeDiff,reduceCtorEq,this]⟩⟩ ?_
 rintro n_a env_a st_a ⟨i,rfl,ale,a4,kC⟩ dC
 have a0:=dC 0 (by kernel_rfl)
 simp only[go_sem, ↓reduceIte,Nat.reduceEqDiff,Nat.reduceAdd,Nat.reduceSub,Nat.reduceLeDiff,reduceCtorEq]at a0
 clear dC
 obtain⟨o,a3,ag,Jq,OM,dC⟩:=kC
 by_cases hi:(i:Int)<(l.length:Int)
 ·have cD:∀{e:Env} {gg:Rows} {nx:Nat},(e 4=.int .i64 (IntKind.i64.wrap ((i:Int)+1)))->(∃o:Id,e 3=.own o 0 (eQ l (i+1)).length/\gg o=some ⟨true,2,(eQ l (i+1)).map ai⟩/\o.br<nx/\σ.next<=o.br/\∀x:Id,x.br<σ.next->gg x=σ.get x)->∃m0,m0<(l.length)-i/\∃i:Nat,m0=(l.length)-i/\i<=(l.length)/\e 4=.int .i64 (i:Int)/\(∃o:Id,e 3=.own o 0 (eQ l i).length/\gg o=some ⟨true,2,(eQ l i).map ai⟩/\o.br<nx/\σ.next<=o.br/\∀x:Id,x.br<σ.next->gg x=σ.get x):=fun x1 x2=>⟨_,by omega,i+1,rfl,by omega,(by rw[x1,az (by omega)]),x2⟩
  have fI:i<l.length:=by omega
  (try((repeat(revert hN;revert N;apply Pn.out));refine wk (tw @a4 (tw @a0 (tw @a3 @hi))) ?_;(repeat(refine Pn.mk ?_;intro N hN))))
  refine aX (fun n env st=>∃d:Nat,n=(4)-d/\d<=(4)/\env 5=.int .i64 (d:Int)/\(∃o:Id,env 3=.own o 0 (fq l (eQ l i) (aY l i).bj d).length/\st.get o=some ⟨true,2,(fq l (eQ l i) (aY l i).bj d).map ai⟩/\o.br<st.next/\σ.next<=o.br/\∀x:Id,x.br<σ.next->st.get x=σ.get x)) (4) ⟨0,by omega,by omega,sl (tw @a4 @a0),⟨o,by simp only[go_sem, ↓reduceIte,Nat.reduceEqDiff,Nat.reduceAdd,Nat.reduceSub,Nat.reduceLeDiff,reduceCtorEq,a3,fq],by simp only[go_sem, ↓reduceIte,Nat.reduceEqDiff,Nat.reduceAdd,Nat.reduceSub,Nat.reduceLeDiff,reduceCtorEq,ag,fq],by(try dsimp only);omega,OM,fun x hx=>sd (dC x hx)⟩⟩ ?_
  rintro n_b env_b st_b ⟨d,rfl,ble,b5,bI0⟩ eX
  have b0:=eX 0 (by kernel_rfl);have b4:=eX 4 (by kernel_rfl)
  simp only[go_sem, ↓reduceIte,Nat.reduceEqDiff,Nat.reduceAdd,Nat.reduceSub,Nat.reduceLeDiff,reduceCtorEq,a4,a0]at b0 b4
  clear eX
  obtain⟨ob,b3,bg,bov,OP,eX⟩:=bI0
  by_cases hd:(d:Int)<4
  ·have fh:∀{e:Env} {gg:Rows} {nx:Nat},(e 5=.int .i64 (IntKind.i64.wrap ((d:Int)+1)))->(∃o:Id,e 3=.own o 0 (fq l (eQ l i) (aY l i).bj (d+1)).length/\gg o=some ⟨true,2,(fq l (eQ l i) (aY l i).bj (d+1)).map ai⟩/\o.br<nx/\σ.next<=o.br/\∀x:Id,x.br<σ.next->gg x=σ.get x)->∃m0,m0<(4)-d/\∃d:Nat,m0=(4)-d/\d<=(4)/\e 5=.int .i64 (d:Int)/\(∃o:Id,e 3=.own o 0 (fq l (eQ l i) (aY l i).bj d).length/\gg o=some ⟨true,2,(fq l (eQ l i) (aY l i).bj d).map ai⟩/\o.br<nx/\σ.next<=o.br/\∀x:Id,x.br<σ.next->gg x=σ.get x):=fun x1 x2=>⟨_,by omega,d+1,rfl,by omega,(by rw[x1,az (by omega)]),x2⟩
   have jm:=fU fI
   have O9:=tG (hF.pt fI)
   have eu:=tC (aY l i).bj d (jy (by omega)) O9.1 O9.2
   have TZ:=wP (bB (aY l i).bj d)
   have kW:=dr bov
   have wG:((fq l (eQ l i) (aY l i).bj d).map ai).length=(fq l (eQ l i) (aY l i).bj d).length:=by simp
   cases hp:AK (bB (aY l i).bj d)
   ·rw[hp]at TZ
    have pN:fq l (eQ l i) (aY l i).bj (d+1)=fq l (eQ l i) (aY l i).bj d:=by
     simp only[fq,jB];rw[if_neg fun h=>by rw[hp]at h;cases h.1]
    (repeat(first|((repeat(revert hN;revert N;apply Pn.out));refine wk (tw @b5 (tw @b0 (tw @b4 (tw @b3 (tw @bg (tw @hd (tw @jm (tw @kW (tw @ah.eq_1 @ai.eq_1))))))))) ?_;(repeat(refine Pn.mk ?_;intro N hN)))|((try apply Or.inl);refine⟨_,aw.x (eu) (sd (tw @b5 (tw @b0 (tw @b4 (tw @b3 (tw @bg (tw @hd (tw @jm (tw @kW (tw @ah.eq_1 @ai.eq_1)))))))))),?_⟩;refine hN _ _ ?_;clear hN N)|((try apply Or.inl);refine⟨_,aw.x (TZ) (sd (tw @b5 (tw @b0 (tw @b4 (tw @b3 (tw @bg (tw @hd (tw @jm (tw @kW (tw @ah.eq_1 @ai.eq_1)))))))))),?_⟩;refine hN _ _ ?_;clear hN N)))
    exact fh (sd (tw @b5 (tw @b0 (tw @b4 @ai.eq_1)))) (by exact⟨ob,sd (tw @b3 @pN),sd (tw @bg (tw @kW @pN)),by(try dsimp only);omega,OP,fun x hx=>by
     have h1:=dr (i:=x) (n:=st_b.next) (by omega)
     have h2:=dr (i:=x) (n:=st_b.next+1) (by omega)
     have h3:=eX x hx
     simp only[go_sem, ↓reduceIte,Nat.reduceEqDiff,Nat.reduceAdd,Nat.reduceSub,Nat.reduceLeDiff,reduceCtorEq,h1,h2,h3]⟩)
   ·rw[hp]at TZ
    have Dy:=rC l (bB (aY l i).bj d) hR (by omega)
    by_cases hx:eO l (bB (aY l i).bj d)<0
    ·have pN:fq l (eQ l i) (aY l i).bj (d+1)=qp (fq l (eQ l i) (aY l i).bj d) (bB (aY l i).bj d):=by
      simp only[fq,jB];rw[if_pos ⟨hp,hx⟩]
     have Xe:=rF l (eQ l i) (aY l i).bj d
     have hl2:=lu l i
     (repeat(first|((repeat(revert hN;revert N;apply Pn.out));refine wk (tw @b5 (tw @b0 (tw @b4 (tw @b3 (tw @bg (tw @hd (tw @jm (tw @kW (tw @hx (tw @ah.eq_1 @ai.eq_1)))))))))) ?_;(repeat(refine Pn.mk ?_;intro N hN)))|((try apply Or.inl);refine⟨_,aw.x (eu) (sd (tw @b5 (tw @b0 (tw @b4 (tw @b3 (tw @bg (tw @hd (tw @jm (tw @kW (tw @hx (tw @ah.eq_1 @ai.eq_1))))))))))),?_⟩;refine hN _ _ ?_;clear hN N)|((try apply Or.inl);refine⟨_,aw.x (TZ) (sd (tw @b5 (tw @b0 (tw @b4 (tw @b3 (tw @bg (tw @hd (tw @jm (tw @kW (tw @hx (tw @ah.eq_1 @ai.eq_1))))))))))),?_⟩;refine hN _ _ ?_;clear hN N)|((try apply Or.inl);refine⟨_,aw.x (Dy) (sd (tw @b5 (tw @b0 (tw @b4 (tw @b3 (tw @bg (tw @hd (tw @jm (tw @kW (tw @hx (tw @ah.eq_1 @ai.eq_1))))))))))),?_⟩;refine hN _ _ ?_;clear hN N)))
     refine .inr (aJ _ _ _ _ _ (fun r σ1 hq=>?_) (yq _ (rG (rH l i) _ d) (by omega) (bB (aY l i).bj d) ob _ (sd (tw @bg @kW)) (by(try dsimp only);omega)))
     obtain⟨g1,x1⟩:=σ1
     obtain⟨o1,rfl,q1,q2,q3,q4,q5⟩:=hq
     (try dsimp only at q1 q2 q3 q4 q5)
     refine hN _ _ ?_
     clear hN N
     (try((repeat(revert hN;revert N;apply Pn.out));refine wk (tw @b5 (tw @b0 @b4)) ?_;(repeat(refine Pn.mk ?_;intro N hN))))
     exact fh (sd (tw @b5 (tw @b0 (tw @b4 @ai.eq_1)))) (by exact⟨o1,sd @pN,sd (tw @q1 @pN),by(try dsimp only);omega,by
      rcases q4 with h|h
      ·omega
      ·have:o1=ob:=by simpa using h
       rw[this];exact OP,fun x hx=>by
      have h1:=dr (i:=x) (n:=st_b.next) (by omega)
      have h2:=dr (i:=x) (n:=st_b.next+1) (by omega)
      have h3:=eX x hx
      have h4:(x=ob)=False:=eq_false fun h=>by rw[h]at hx;omega
      have h5:=q5 x (by omega) h4
      simp only[go_sem, ↓reduceIte,Nat.reduceEqDiff,Nat.reduceAdd,Nat.reduceSub,Nat.reduceLeDiff,reduceCtorEq,h1,h2,h3,h5]⟩)
    ·have pN:fq l (eQ l i) (aY l i).bj (d+1)=fq l (eQ l i) (aY l i).bj d:=by
      simp only[fq,jB];rw[if_neg fun h=>hx h.2]
     (repeat(first|((repeat(revert hN;revert N;apply Pn.out));refine wk (tw @b5 (tw @b0 (tw @b4 (tw @b3 (tw @bg (tw @hd (tw @jm (tw @kW (tw @hx (tw @ah.eq_1 @ai.eq_1)))))))))) ?_;(repeat(refine Pn.mk ?_;intro N hN)))|((try apply Or.inl);refine⟨_,aw.x (eu) (sd (tw @b5 (tw @b0 (tw @b4 (tw @b3 (tw @bg (tw @hd (tw @jm (tw @kW (tw @hx (tw @ah.eq_1 @ai.eq_1))))))))))),?_⟩;refine hN _ _ ?_;clear hN N)|((try apply Or.inl);refine⟨_,aw.x (TZ) (sd (tw @b5 (tw @b0 (tw @b4 (tw @b3 (tw @bg (tw @hd (tw @jm (tw @kW (tw @hx (tw @ah.eq_1 @ai.eq_1))))))))))),?_⟩;refine hN _ _ ?_;clear hN N)|((try apply Or.inl);refine⟨_,aw.x (Dy) (sd (tw @b5 (tw @b0 (tw @b4 (tw @b3 (tw @bg (tw @hd (tw @jm (tw @kW (tw @hx (tw @ah.eq_1 @ai.eq_1))))))))))),?_⟩;refine hN _ _ ?_;clear hN N)))
     exact fh (sd (tw @b5 (tw @b0 (tw @b4 @ai.eq_1)))) (by exact⟨ob,sd (tw @b3 @pN),sd (tw @bg (tw @kW @pN)),by(try dsimp only);omega,OP,fun x hx=>by
      have h1:=dr (i:=x) (n:=st_b.next) (by omega)
      have h2:=dr (i:=x) (n:=st_b.next+1) (by omega)
      have h3:=eX x hx
      simp only[go_sem, ↓reduceIte,Nat.reduceEqDiff,Nat.reduceAdd,Nat.reduceSub,Nat.reduceLeDiff,reduceCtorEq,h1,h2,h3]⟩)
  ·have Tx:d=4:=by omega
   rw[Tx]at b3 bg
   have hnu:fq l (eQ l i) (aY l i).bj 4=eQ l (i+1):=rfl
   rw[hnu]at b3 bg
   (try((repeat(revert hN;revert N;apply Pn.out));refine wk (tw @b5 (tw @b0 (tw @b4 (tw @b3 (tw @bg @hd))))) ?_;(repeat(refine Pn.mk ?_;intro N hN))))
   exact cD (sd (tw @b5 (tw @b0 (tw @b4 @ai.eq_1)))) (by exact⟨ob,sd @b3,sd @bg,by(try dsimp only);omega,OP,fun x hx=>sd (eX x hx)⟩)
 ·have mj:i=l.length:=by omega
  (try((repeat(revert hN;revert N;apply Pn.out));refine wk (tw @a4 (tw @a0 (tw @a3 (tw @ag @hi)))) ?_;(repeat(refine Pn.mk ?_;intro N hN))))
  exact fe (.inl rfl) (vs:=[.own o 0 (eQ l i).length]) (sd @a3) ⟨o,by rw[iQ,<-mj];rfl,by rw[iQ,<-mj];simp only[go_sem, ↓reduceIte,Nat.reduceEqDiff,Nat.reduceAdd,Nat.reduceSub,Nat.reduceLeDiff,reduceCtorEq,ag],by(try dsimp only);omega,by(try dsimp only);omega,.inl OM,fun x hx _=>sd (dC x hx)⟩
structure Wr2 (g:Rows) (n:Nat) (A S C c T O:Id) (s:aM) (l:List ae):Prop where
 a:∃b,g A=some ⟨b,1,[[.sl (l.map ah)]]⟩
 sy:∃b,g S=some ⟨b,4,[aE s]⟩
 p:∃b,g C=some ⟨b,1,[[.ptr c 0 0]]⟩
 R4:Br g n c T O s l
 av:A.br<n
 sv:S.br<n
 pv:C.br<n
def F0 (B:ar->Int->Bool) (p:ar):Nat->List ae
 |0=>[]
 |t+1=>if B p (t:Nat)=true then F0 B p t++[⟨p,(t:Nat)⟩]else F0 B p t
def rY (B:ar->Int->Bool) (m:Nat) (ps:List ar):List ae:=ps.flatMap fun p=>F0 B p m
theorem F1 (B:ar->Int->Bool) (p:ar):∀t,(F0 B p t).length<=t
 |0=>by simp[F0]
 |t+1=>by
  have:=F1 B p t
  rw[F0]
  split
  ·rw[List.length_append,List.length_singleton];omega
  ·omega
theorem uS (B:ar->Int->Bool) (m:Nat):∀ps:List ar,(rY B m ps).length<=ps.length*m
 |[]=>by simp[rY]
 |p::ps=>by
  have h:=uS B m ps
  have h2:=F1 B p m
  unfold rY at *
  rw[List.flatMap_cons,List.length_append,List.length_cons,Nat.add_mul,Nat.one_mul]
  omega
theorem BE {B:ar->Int->Bool} {m:Nat} {ps:List ar} {k:Nat} (hk:k<ps.length):rY B m (ps.take (k+1))=rY B m (ps.take k)++F0 B (jK ps k) m:=by
 unfold rY
 rw[List.take_succ_eq_append_getElem hk,List.flatMap_append,jZ hk]
 simp
end Go.Proofs.YtgoljkjaameagaaGreat.V

namespace Go.Proofs.YtgoljkjaameagaaGreat.V
open Go.RowKit
def ga:List ae->ae->List ae
 |[],q=>[q]
 |x::r,q=>if iW q.bj x.bj=true then q::x::r else x::ga r q
theorem CR {q x:ae}:∀{l:List ae},x∈ga l q↔x=q∨x∈l
 |[]=>by simp[ga]
 |y::r=>by
  have ih:=@CR q x r
  rw[ga]
  split
  ·simp
  ·simp only[List.mem_cons,ih]
   constructor
   ·rintro(h|h|h)<;>simp[h]
   ·rintro(h|h|h)<;>simp[h]
theorem po (q:ae):∀l:List ae,(ga l q).length=l.length+1
 |[]=>rfl
 |y::r=>by
  have ih:=po q r
  rw[ga]
  split
  ·simp
  ·simp[ih]
theorem sL {l:List ae}:qJ l↔l.Pairwise fun a b=>iW a.bj b.bj=true:=by
 rw[List.pairwise_iff_getElem]
 constructor
 ·intro h i j hi hj EM
  have:=h i j EM hj
  rwa [hZ hi,hZ hj]at this
 ·intro h i j EM hj
  have:=h i j (by omega) hj EM
  rwa [hZ (by omega),hZ hj]
theorem GB {l:List ae} {p:ar}:eO l p<0↔∀t∈l,t.bj≠p:=Cw
theorem Uu {q:ae}:∀{l:List ae},qJ l->eO l q.bj<0->qJ (ga l q):=by
 intro l
 rw[sL,sL,GB]
 induction l with
 |nil=>intro _ _;exact List.pairwise_singleton _ _
 |cons y r ih=>
  intro h hn
  obtain⟨h1,h2⟩:=List.pairwise_cons.1 h
  rw[ga]
  split
  ·rename_i hl
   refine List.pairwise_cons.2 ⟨fun x hx=>?_,h⟩
   rcases List.mem_cons.1 hx with rfl|hx
   ·exact hl
   ·exact iD hl (h1 x hx)
  ·rename_i hl
   rw[Bool.not_eq_true]at hl
   refine List.pairwise_cons.2 ⟨fun x hx=>?_,ih h2 fun t ht=>hn t (by simp[ht])⟩
   rcases CR.1 hx with rfl|hx
   ·exact vg hl fun e=>hn y (by simp) e.symm
   ·exact h1 x hx
theorem jV (x:ae) (r:List ae) (p:ar):gH (x::r) p=if x.bj=p then x.bQ else gH r p:=by
 unfold gH eO qo
 rw[List.findIdx_cons]
 by_cases h:x.bj=p
 ·simp[h,aY]
 ·simp only[h,decide_false,cond_false,List.length_cons,Nat.add_lt_add_iff_right,if_false]
  by_cases hl:(r.findIdx fun c=>decide (c.bj=p))<r.length
  ·rw[if_pos hl,if_pos hl,if_pos (by omega),if_pos (by omega)]
   simp[aY]
  ·rw[if_neg hl,if_neg hl];rfl
theorem Js {q:ae} (p:ar):∀{l:List ae},(∀t∈l,t.bj≠q.bj)->gH (ga l q) p=if q.bj=p then q.bQ else gH l p
 |[],_=>by rw[ga,jV]
 |x::r,h=>by
  have ih:=@Js q p r fun t ht=>h t (by simp[ht])
  rw[ga]
  split
  ·rw[jV]
  ·rw[jV,ih,jV]
   by_cases h1:x.bj=p
   ·have h2:q.bj≠p:=fun e=>h x (by simp) (h1.trans e.symm)
    rw[if_pos h1,if_neg h2,if_pos h1]
   ·rw[if_neg h1,if_neg h1]
theorem Mt {q:ae} (p:ar):∀{l:List ae},(∀t∈l,t.bj≠q.bj)->gH (l++[q]) p=if q.bj=p then q.bQ else gH l p
 |[],_=>by rw[List.nil_append,jV]
 |x::r,h=>by
  have ih:=@Mt q p r fun t ht=>h t (by simp[ht])
  rw[List.cons_append,jV,ih,jV]
  by_cases h1:x.bj=p
  ·have h2:q.bj≠p:=fun e=>h x (by simp) (h1.trans e.symm)
   rw[if_pos h1,if_neg h2,if_pos h1]
  ·rw[if_neg h1,if_neg h1]
theorem pS {α:Type} [DecidableEq α]:∀{xs ys:List α},xs.Nodup->(∀x∈xs,x∈ys)->xs.length<=ys.length
 |[],_,_,_=>Nat.zero_le _
 |x::xs,ys,hn,h=>by
  obtain⟨h1,h2⟩:=List.nodup_cons.1 hn
  have hx:=h x (by simp)
  have:=@pS α _ xs (ys.erase x) h2 fun y hy=>(List.mem_erase_of_ne fun e=>h1 (by rw[<-e];exact hy)).2 (h y (by simp[hy]))
  rw[List.length_erase_of_mem hx]at this
  have:=List.length_pos_of_mem hx
  rw[List.length_cons];omega
theorem Sz {l:List ae} (h:qJ l):l.Nodup:=by
 rw[sL]at h
 refine List.Pairwise.imp (fun {a b} oq e=>?_) h
 rw[e,nB]at oq;cases oq
abbrev G3:=List ae×List ae
noncomputable def VJ (s:aM) (st:G3) (x:ae):G3:=if eF s st.2 x.bj x.bQ=true then(st.1++[x],ga st.2 x)else st
structure InsI (s:aM) (l:List ae) (st:G3):Prop where
 Rm:qJ st.2
 sub:∀x∈st.2,x∈l
 done:∀x∈st.1,x∈l
 len:st.2.length=s.cC.aj.length+st.1.length
theorem S4 {s:aM} {l:List ae} (hA:kz s.aC l) {now:List ae} (hs:∀x∈now,x∈l) {p:ar} {t:Int} (h:eF s now p t=true):eO now p<0:=by
 rcases Int.lt_or_le (eO now p) 0 with h0|h0
 ·exact h0
 ·exfalso
  obtain⟨h1,_⟩:=kS h0
  have h2:=(eD (hA.2 _ (hs _ (ko h1)))).1
  simp[eF,gH,h0]at h
  omega
structure SysW (s:aM):Prop where
 set:iu s.aC
 Oh:kz s.aC s.cC.aj
 some:1<=s.cC.aj.length
 LF:iP s.aA 1 16=true
def kV (B:ar->Int->Bool) (p:ar):Nat->List Int
 |0=>[]
 |t+1=>if B p (t:Nat)=true then kV B p t++[(t:Int)]else kV B p t
theorem se (B:ar->Int->Bool) (p:ar):∀t,(kV B p t).length<=t
 |0=>by simp[kV]
 |t+1=>by
  have:=se B p t
  rw[kV]
  split
  ·rw[List.length_append,List.length_singleton];omega
  ·omega
theorem zK (B:ar->Int->Bool) (p:ar):∀t,F0 B p t=(kV B p t).map fun k=>(⟨p,k⟩:ae)
 |0=>rfl
 |t+1=>by
  rw[F0,kV,zK B p t]
  split<;>simp
theorem Gh {B:ar->Int->Bool} {p:ar} (h:∀t:Nat,B p t=false):∀t,kV B p t=[]
 |0=>rfl
 |t+1=>by rw[kV,if_neg (by rw[h t];simp),Gh h t]
theorem B7 {B:ar->Int->Bool} {p:ar}:∀{t:Nat},kV B p t≠[]->∃k:Nat,k<t/\B p k=true
 |0,h=>absurd rfl h
 |t+1,h=>by
  rw[kV]at h
  split at h
  ·rename_i hb;exact⟨t,Nat.lt_succ_self t,hb⟩
  ·obtain⟨k,hk,hb⟩:=B7 h
   exact⟨k,Nat.lt_succ_of_lt hk,hb⟩
theorem yU {B C:ar->Int->Bool} {p:ar} (h:∀t:Nat,B p t=C p t):∀t,kV B p t=kV C p t
 |0=>rfl
 |t+1=>by rw[kV,kV,h t,yU h t]
abbrev En:=ar×AV
def pM (e:En):List AV:=[.int .i64 e.1.eM,.int .i64 e.1.eG,e.2]
def nG:List En->ar->AV->List En
 |[],q,v=>[(q,v)]
 |e::es,q,v=>if e.1=q then(q,v)::es else e::nG es q v
def r9:List En->ar->List En
 |[],_=>[]
 |e::es,q=>if e.1=q then es else e::r9 es q
theorem wY {q:ar} {v:AV} {x:En}:∀{es:List En},x.1≠q->(x∈nG es q v↔x∈es)
 |[],h=>by
  rw[nG,List.mem_singleton]
  exact⟨fun e=>absurd (by rw[e]) h,fun e=>by cases e⟩
 |e::es,h=>by
  have ih:=@wY q v x es h
  rw[nG]
  split
  ·rename_i he
   rw[List.mem_cons,List.mem_cons]
   exact⟨fun h1=>h1.elim (fun e=>absurd (by rw[e]) h) .inr,fun h1=>h1.elim (fun e'=>absurd (by rw[e'];exact he) h) .inr⟩
  ·rw[List.mem_cons,List.mem_cons,ih]
theorem zr (q:ar) (v:AV):∀es:List En,(q,v)∈nG es q v
 |[]=>by simp[nG]
 |e::es=>by
  have ih:=zr q v es
  rw[nG]
  split
  ·simp
  ·exact List.mem_cons_of_mem _ ih
theorem CC {q:ar} {v:AV} {p:ar}:∀{es:List En},p∈(nG es q v).map (·.1)->p=q∨p∈es.map (·.1)
 |[],h=>by simp[nG]at h;exact .inl h
 |e::es,h=>by
  rw[nG]at h
  split at h
  ·simp only[List.map_cons,List.mem_cons]at h ⊢
   exact h.imp_right .inr
  ·simp only[List.map_cons,List.mem_cons]at h ⊢
   rcases h with h|h
   ·exact .inr (.inl h)
   ·exact(CC h).imp_right .inr
theorem xi (q:ar) (v:AV):∀{es:List En},(es.map (·.1)).Nodup->((nG es q v).map (·.1)).Nodup
 |[],_=>by simp[nG]
 |e::es,h=>by
  obtain⟨h1,h2⟩:=List.nodup_cons.1 (show(e.1::es.map (·.1)).Nodup from h)
  rw[nG]
  split
  ·rename_i he
   refine List.nodup_cons.2 ⟨?_,h2⟩
   show q∉_
   rw[<-he];exact h1
  ·rename_i he
   refine List.nodup_cons.2 ⟨fun hc=>?_,xi q v h2⟩
   rcases CC hc with h3|h3
   ·exact he h3
   ·exact h1 h3
theorem CQ {q:ar} {x:En}:∀{es:List En},x.1≠q->(x∈r9 es q↔x∈es)
 |[],_=>Iff.rfl
 |e::es,h=>by
  have ih:=@CQ q x es h
  rw[r9]
  split
  ·rename_i he
   rw[List.mem_cons]
   exact⟨.inr,fun h1=>h1.elim (fun e'=>absurd (by rw[e'];exact he) h) id⟩
  ·rw[List.mem_cons,List.mem_cons,ih]
theorem wc {q:ar}:∀{es:List En},(r9 es q).Sublist es
 |[]=>List.Sublist.slnil
 |e::es=>by
  rw[r9]
  split
  ·exact List.sublist_cons_self _ _
  ·exact(wc (es:=es)).cons_cons _
theorem Eb (q:ar) {es:List En} (h:(es.map (·.1)).Nodup):((r9 es q).map (·.1)).Nodup:=((wc (q:=q) (es:=es)).map _).nodup h
theorem F6 {q:ar}:∀{es:List En},(es.map (·.1)).Nodup->∀e∈r9 es q,e.1≠q
 |[],_,e,h=>by cases h
 |x::es,hn,e,h=>by
  obtain⟨h1,h2⟩:=List.nodup_cons.1 (show(x.1::es.map (·.1)).Nodup from hn)
  rw[r9]at h
  split at h
  ·rename_i hx
   intro he
   exact h1 (by rw[hx,<-he];exact List.mem_map_of_mem h)
  ·rename_i hx
   rcases List.mem_cons.1 h with rfl|h
   ·exact hx
   ·exact F6 h2 e h
theorem ND {es:List En} (hn:(es.map (·.1)).Nodup) {q:ar} {u v:AV} (h1:(q,u)∈es) (h2:(q,v)∈es):u=v:=by
 induction es with
 |nil=>cases h1
 |cons e es ih=>
  obtain⟨n1,n2⟩:=List.nodup_cons.1 (show(e.1::es.map (·.1)).Nodup from hn)
  rcases List.mem_cons.1 h1 with a|a<;>rcases List.mem_cons.1 h2 with b|b
  ·rw[<-a]at b;injection b with _ b;exact b.symm
  ·exact absurd (by rw[<-a];exact List.mem_map_of_mem (f:=(·.1)) b) n1
  ·exact absurd (by rw[<-b];exact List.mem_map_of_mem (f:=(·.1)) a) n1
  ·exact ih n2 a b
structure xV (g:Rows) (n:Nat) (es:List En) (fs:ar->List Int) (A:ar->Prop):Prop where
 nodup:(es.map (·.1)).Nodup
 at_:∀q,A q->(fs q=[]/\∀e∈es,e.1≠q)∨(fs q≠[]/\∃o:Id,(q,AV.own o 0 (fs q).length)∈es/\o.br<n/\g o=some ⟨true,1,(fs q).map aQ⟩)
theorem xV.mono {g:Rows} {n:Nat} {es:List En} {fs:ar->List Int} {A A':ar->Prop} (h:xV g n es fs A) (hA:∀q,A' q->A q):xV g n es fs A':=⟨h.nodup,fun q hq=>h.at_ q (hA q hq)⟩
theorem xV.frame {g g':Rows} {n n':Nat} {es:List En} {fs:ar->List Int} {A:ar->Prop} (h:xV g n es fs A) (hn:n<=n') (hf:∀x:Id,x.br<n->(∃k r,g x=some ⟨k,1,r⟩)->g' x=g x):xV g' n' es fs A:=⟨h.nodup,fun q hq=>by
 rcases h.at_ q hq with h1|⟨h1,o,h2,h3,h4⟩
 ·exact .inl h1
 ·exact .inr ⟨h1,o,h2,by omega,(hf o h3 ⟨_,_,h4⟩).trans h4⟩⟩
theorem xV.put {g:Rows} {n:Nat} {es:List En} {fs:ar->List Int} {A:ar->Prop} (h:xV g n es fs A) {q:ar} {o:Id} (h0:fs q≠[]) (ho:o.br<n) (hg:g o=some ⟨true,1,(fs q).map aQ⟩):xV g n (nG es q (.own o 0 (fs q).length)) fs (fun p=>A p∨p=q):=⟨xi _ _ h.nodup,fun p hp=>by
 by_cases e:p=q
 ·subst e
  exact .inr ⟨h0,o,zr _ _ _,ho,hg⟩
 ·rcases hp with hp|hp
  ·rcases h.at_ p hp with⟨h1,h2⟩|⟨h1,o',h2,h3⟩
   ·refine .inl ⟨h1,fun x hx hxp=>?_⟩
    have hxq:x.1≠q:=fun e'=>e (hxp.symm.trans e')
    exact h2 x ((wY hxq).1 hx) hxp
   ·exact .inr ⟨h1,o',(wY e).2 h2,h3⟩
  ·exact absurd hp e⟩
theorem xV.cut {g:Rows} {n:Nat} {es:List En} {fs:ar->List Int} {A:ar->Prop} (h:xV g n es fs A) {q:ar} (h0:fs q=[]):xV g n (r9 es q) fs (fun p=>A p∨p=q):=⟨Eb _ h.nodup,fun p hp=>by
 by_cases e:p=q
 ·subst e
  exact .inl ⟨h0,F6 h.nodup⟩
 ·rcases hp with hp|hp
  ·rcases h.at_ p hp with⟨h1,h2⟩|⟨h1,o',h2,h3⟩
   ·exact .inl ⟨h1,fun x hx=>h2 x (wc.subset hx)⟩
   ·exact .inr ⟨h1,o',(CQ e).2 h2,h3⟩
  ·exact absurd hp e⟩
theorem CU (p:ar):∀(es:List En) (i:Nat),∃fi,gr ⟨true,[.tI,.tI]⟩ (ai p) (es.map pM) i=some fi/\
  (∀v,(match fi with|some j=>(es.map pM).set (j-i) [.int .i64 p.eM,.int .i64 p.eG,v]|none=>es.map pM++[[.int .i64 p.eM,.int .i64 p.eG,v]])=(nG es p v).map pM)/\
  ((match fi with|some j=>(es.map pM).eraseIdx (j-i)|none=>es.map pM)=(r9 es p).map pM)/\
  (∀j,fi=some j->i<=j/\j-i<es.length/\∃v,es[j-i]? =some (p,v))/\(fi=none->∀e∈es,e.1≠p)
 |[],i=>⟨none,by simp[gr],fun v=>rfl,rfl,fun _ h=>(by cases h),fun _ _ he=>(by cases he)⟩
 |e::es,i=>by
  have hq:eY [TS.tI,TS.tI] (ai p) ((pM e).take 2)=some (decide (p=e.1)):=by
   have h:(p=e.1)↔(p.eM=e.1.eM/\p.eG=e.1.eG):=⟨fun h=>by rw[h];exact⟨rfl,rfl⟩,fun h=>xg h.1 h.2⟩
   simp[ai,pM,eY,fC,h]
  by_cases h:p=e.1
  ·refine⟨some i,?_,fun v=>?_,?_,fun j hj=>?_,fun hc=>by cases hc⟩
   ·rw[List.map_cons]
    unfold gr
    rw[show(⟨true,[.tI,.tI]⟩:MK).ts=[.tI,.tI]from rfl,show(⟨true,[.tI,.tI]⟩:MK).ks=2 from rfl,hq,decide_eq_true h]
   ·simp[nG,h,pM]
   ·simp[r9,h]
   ·cases hj
    exact⟨Nat.le_refl _,by simp,e.2,by simp[h]⟩
  ·obtain⟨fi,h1,h2,h3,h4,h5⟩:=CU p es (i+1)
   have he:¬e.1=p:=fun hc=>h hc.symm
   refine⟨fi,?_,fun v=>?_,?_,fun j hj=>?_,fun hc x hx=>?_⟩
   ·rw[List.map_cons]
    unfold gr
    rw[show(⟨true,[.tI,.tI]⟩:MK).ts=[.tI,.tI]from rfl,show(⟨true,[.tI,.tI]⟩:MK).ks=2 from rfl,hq,decide_eq_false h]
    exact h1
   ·have U0:=h2 v
    rw[nG,if_neg he]
    cases fi with
    |none=>
     simp only[List.map_cons,List.cons_append]at U0 ⊢
     rw[U0]
    |some j=>
     obtain⟨h6,_⟩:=h4 j rfl
     obtain⟨k,hk⟩:∃k,j=i+1+k:=⟨j-(i+1),by omega⟩
     subst hk
     simp only[show i+1+k-i=k+1 by omega,show i+1+k-(i+1)=k by omega,List.map_cons,List.set_cons_succ]at U0 ⊢
     rw[U0]
   ·rw[r9,if_neg he]
    cases fi with
    |none=>
     simp only[List.map_cons]at h3 ⊢
     rw[h3]
    |some j=>
     obtain⟨h6,_⟩:=h4 j rfl
     obtain⟨k,hk⟩:∃k,j=i+1+k:=⟨j-(i+1),by omega⟩
     subst hk
     simp only[show i+1+k-i=k+1 by omega,show i+1+k-(i+1)=k by omega,List.map_cons,List.eraseIdx_cons_succ]at h3 ⊢
     rw[h3]
   ·obtain⟨h6,h7,v,h8⟩:=h4 j hj
    refine⟨by omega,by simp only[List.length_cons];omega,v,?_⟩
    rw[show j-i=(j-(i+1))+1 by omega,List.getElem?_cons_succ];exact h8
   ·rcases List.mem_cons.1 hx with rfl|hx
    ·exact he
    ·exact h5 hc x hx
theorem zh (p:ar) (es:List En):∃fi,gm ⟨true,[.tI,.tI]⟩ (.agg [.int .i64 p.eM,.int .i64 p.eG]) (es.map pM)=some fi/\(∀v,dD (es.map pM) [.int .i64 p.eM,.int .i64 p.eG,v] fi=(nG es p v).map pM)/\dI (es.map pM) fi=(r9 es p).map pM/\
  (∀j,fi=some j->∃v,es[j]? =some (p,v))/\(fi=none->∀e∈es,e.1≠p):=by
 obtain⟨fi,h1,h2,h3,h4,h5⟩:=CU p es 0
 refine⟨fi,?_,fun v=>?_,?_,fun j hj=>?_,h5⟩
 ·unfold gm
  rw[if_pos ⟨rfl,rfl,rfl⟩]
  exact h1
 ·rw[<-h2 v];cases fi<;>rfl
 ·rw[<-h3];cases fi<;>rfl
 ·obtain⟨_,_,v,h6⟩:=h4 j hj
  exact⟨v,by simpa using h6⟩
theorem zx (p:ar) (k:Nat) (hk:k<4):bB (bB p k) (kT k)=p:=by
 have:k=0∨k=1∨k=2∨k=3:=by omega
 rcases this with rfl|rfl|rfl|rfl<;>(cases p;simp[bB,kT,iP];try omega)
theorem bind_some {s:ax} {F:ar->Int} {p:ar} {t:Int}:∀d:Nat,0<dF s F p t d->∃k:Nat,k<d/\0<=F (bB p k)
 |0,h=>by simp[dF]at h
 |d+1,h=>by
  by_cases h0:0<=F (bB p d)
  ·exact⟨d,Nat.lt_succ_self d,h0⟩
  ·rw[dF,if_neg h0,Int.add_zero]at h
   obtain⟨k,hk,h1⟩:=bind_some d h
   exact⟨k,Nat.lt_succ_of_lt hk,h1⟩
theorem JX {s:aM} (hT:1<=s.aA) {l:List ae} (hA:kz s.aC l) {p:ar} {t:Int} (h:eF s l p t=true):Bt l p:=by
 simp[eF]at h
 obtain⟨⟨h1,h2⟩,h3⟩:=h
 obtain⟨k,hk,h4⟩:=bind_some (s:=s.aC) (F:=gH l) (p:=p) (t:=t) 4 (by have:qu s.aC (gH l) p t=dF s.aC (gH l) p t 4:=rfl;omega)
 have h5:0<=eO l (bB p k):=by
  unfold gH at h4
  split at h4
  ·assumption
  ·omega
 obtain⟨h6,h7⟩:=kS h5
 refine⟨h1,(DU hA p).1 h2,(eO l (bB p k)).toNat,(kT k).toNat,h6,?_,?_⟩
 ·have:k=0∨k=1∨k=2∨k=3:=by omega
  rcases this with rfl|rfl|rfl|rfl<;>decide
 ·rw[h7]
  have:((kT k).toNat:Int)=kT k:=by
   have:k=0∨k=1∨k=2∨k=3:=by omega
   rcases this with rfl|rfl|rfl|rfl<;>decide
  rw[this,zx p k hk]
noncomputable def mh (s:aM) (l:List ae):List ar:=(iQ l).filter fun p=>decide (kV (eF s l) p s.aC.aj.length≠[])
theorem wU {s:aM} (hT:1<=s.aA) {l:List ae} (hA:kz s.aC l) (p:ar):p∈mh s l↔kV (eF s l) p s.aC.aj.length≠[]:=by
 unfold mh
 rw[List.mem_filter,zg,decide_eq_true_eq]
 refine⟨fun h=>h.2,fun h=>⟨?_,h⟩⟩
 obtain⟨k,_,hk⟩:=B7 h
 exact JX hT hA hk
theorem Er (s:aM) (l:List ae):nk (mh s l):=List.Pairwise.sublist List.filter_sublist (rH l _)
theorem DZ (s:aM) (l:List ae):rY (eF s l) s.aC.aj.length (iQ l)=rY (eF s l) s.aC.aj.length (mh s l):=by
 unfold mh
 generalize iQ l=ps
 induction ps with
 |nil=>rfl
 |cons p ps ih=>
  unfold rY at *
  rw[List.flatMap_cons,List.filter_cons,ih]
  split
  ·rw[List.flatMap_cons]
  ·rename_i h
   simp only[decide_eq_true_eq,ne_eq,Classical.not_not]at h
   rw[zK,h];rfl
end Go.Proofs.YtgoljkjaameagaaGreat.V

namespace Go.Proofs.YtgoljkjaameagaaGreat.V
open Go.RowKit
attribute [local irreducible] ek wpOps fK Call
attribute [local go_sem] aI fw eH fE fD dd upd cm K.av cG AV.cells AV.cell rowOf rowsOf part ld rowAt bL bY dx dO gz bE cW dY fC eY dj dS cU cR dG dH bH aZ cJ bG cL cK dQ dU dR cI bJ cV dP bF aL cP cz gy bq cF bI aW dq bm dy AV.undef bw bz dJ dM dD dI cE dX ea cq dW dV cN cQ List.getD_cons_zero List.getD_cons_succ List.getD_nil List.all_cons List.all_nil Bool.and_true Bool.true_and Bool.and_self Bool.not_true Bool.not_false Option.map_some Option.map_none Option.bind_some Option.bind_none List.length_cons List.length_nil List.take_succ_cons List.take_zero List.take_nil List.drop_succ_cons List.drop_zero List.drop_nil List.head?_cons List.map_cons List.map_nil List.getElem?_cons_zero List.getElem?_cons_succ List.cons_append List.nil_append List.append_nil List.length_map List.set_cons_zero List.set_cons_succ Nat.reduceMul eq_self Int.toNat_natCast Int.natCast_nonneg and_self true_and and_true decide_true decide_false Bool.false_eq_true Nat.zero_add Nat.add_zero List.contains_cons List.contains_nil Bool.or_false Bool.false_or beq_self_eq_true Nat.reduceBEq ne_eq not_true_eq_false not_false_eq_true Id.mk.injEq false_and and_false Nat.reduceLT Int.reduceLE Int.reduceLT Int.reduceToNat Int.reduceNeg Int.reduceAdd Nat.le_refl List.length_append beq_true beq_false Bool.not_eq_eq_eq_not or_false false_or dK aq au aH bf bt bZ aU bh aT bc cH bx
theorem S7 (g:Rows) (n:Nat) (x:ae):er g (n+1) (ah x)=some (ah x):=by simp[ah,bV,cY,eL]
def SC (n:Nat) (L:List ae) (r:AV) (σ':ay):Prop:=∃o:Id,r=.agg [.own o 0 L.length]/\σ'.get o=some ⟨true,3,L.map ah⟩/\n<=o.br/\o.br<σ'.next
theorem SC.val {f:Nat} {args args':List AV} {L:List ae} {σ:ay} (h:∀n,Call Tryz.prog f args' ⟨fun _=>none,n⟩ (SC n L)) (hv:de (dK σ.get) 6 args=some args'):Call Tryz.prog f args σ (fun r σ'=>SC σ.next L r σ'/\Kept σ σ'):=by
 refine vH mixed hv (aJ _ _ _ _ _ (fun r σ' hq=>?_) (s9 mixed (h σ.next)))
 obtain⟨⟨o,rfl,h2,h3,h4⟩,hn⟩:=hq
 refine⟨[o],rfl,fun i hi=>?_,⟨o,rfl,(pB (by simp)).trans h2,h3,h4⟩,hn,fun j hj=>kY fun hc=>?_⟩
 ·rw[List.mem_singleton.1 hi]
  exact⟨_,h2,rfl,fun cs dz a ha=>by
   obtain⟨x,_,rfl⟩:=List.mem_map.1 dz
   simp[ah]at ha
   rcases ha with rfl|rfl|rfl<;>rfl⟩
 ·rw[List.mem_singleton.1 hc]at hj;omega
def uI (q:ae) (l:List ae):Bool:=l.any fun x=>iW q.bj x.bj
theorem C6 {q:ae}:∀{l:List ae},uI q l=false->ga l q=l++[q]
 |[],_=>rfl
 |x::l,h=>by
  unfold uI at h
  rw[List.any_cons,Bool.or_eq_false_iff]at h
  rw[ga,if_neg (by rw[h.1];simp),C6 h.2];rfl
theorem zq {q y:ae}:∀{l:List ae},uI q l=true->ga (l++[y]) q=ga l q++[y]
 |x::l,h=>by
  unfold uI at h
  rw[List.any_cons]at h
  rw[List.cons_append,ga,ga]
  cases hx:iW q.bj x.bj
  ·rw[hx,Bool.false_or]at h
   rw[if_neg (by simp),if_neg (by simp),zq h];rfl
  ·simp
theorem zp {q y:ae}:∀{l:List ae},uI q l=false->iW q.bj y.bj=true->ga (l++[y]) q=l++[q]++[y]
 |[],_,hy=>by simp[ga,hy]
 |x::l,h,hy=>by
  unfold uI at h
  rw[List.any_cons,Bool.or_eq_false_iff]at h
  rw[List.cons_append,ga,if_neg (by rw[h.1];simp),zp h.2 hy];rfl
def jf (q:ae) (l:List ae):List ae:=if uI q l=true then ga l q else l
theorem we (q:ae) (l:List ae) (y:ae):uI q (l++[y])=(uI q l||iW q.bj y.bj):=by simp[uI]
theorem Ir (q:ae) (l:List ae):(jf q l).length<=l.length+1:=by
 unfold jf
 split
 ·rw[po];omega
 ·omega
theorem K5 {q y:ae} {l:List ae} (h:uI q l=true∨iW q.bj y.bj=false):jf q (l++[y])=jf q l++[y]:=by
 unfold jf
 rw[we]
 cases hd:uI q l
 ·rw[hd]at h
  have h2:iW q.bj y.bj=false:=by rcases h with h|h;cases h;exact h
  simp[h2]
 ·simp[zq hd]
theorem K4 {q y:ae} {l:List ae} (h:uI q l=false) (hy:iW q.bj y.bj=true):jf q (l++[y])=jf q l++[q]++[y]:=by
 unfold jf
 rw[we,h,hy]
 simp[zp h hy]
def VT (m:Nat) (L:List ae) (v:AV) (g:Rows) (n:Nat):Prop:=(L=[]/\v=.cj)∨∃o:Id,v=.own o 0 L.length/\g o=some ⟨true,3,L.map ah⟩/\m<=o.br/\o.br<n
theorem Dh {l:List ae} {k:Nat} (hk:k<l.length):l.take (k+1)=l.take k++[aY l k]:=by rw[List.take_succ_eq_append_getElem hk,hZ hk]
theorem CN (L:List ae) (q:ae):(L++[q]).map ah=L.map ah++[[.int .i64 q.bj.eM,.int .i64 q.bj.eG,.int .i64 q.bQ]]:=by rw[List.map_append];rfl
theorem sE (L:List ae) (q:ae):(L++[q]).length=L.length+1:=by rw[List.length_append];rfl
theorem KE (l:List ae) (hl:l.length<=1048576) (p:ar) (t:Int) (n0:Nat):Call Tryz.prog 162 [.dp [.sl (l.map ah)],.agg (ai p),.int .i64 t] ⟨fun _=>none,n0⟩ (SC n0 (ga l ⟨p,t⟩)):=by
 refine e6 eK rfl fun lf=>?_
 clear lf
 obtain⟨q,hq⟩:∃q:ae,q=⟨p,t⟩:=⟨_,rfl⟩
 (try((repeat(revert hN;revert N;apply Pn.out));refine wk @ai.eq_1 ?_;(repeat(refine Pn.mk ?_;intro N hN))))
 refine aX (fun n env st=>∃i:Nat,n=(l.length)-i/\i<=(l.length)/\env 9=.int .i64 (i:Int)/\env 8=.bool (uI q (l.take i))/\st.get ⟨162000000,n0⟩=some ⟨true,2,[ai p]⟩/\st.get ⟨162000001,n0⟩=some ⟨true,1,[[.cj]]⟩/\(n0+2<=st.next/\∃v,st.get ⟨162001001,n0+1⟩=some ⟨true,1,[[v]]⟩/\VT (n0+2) (jf q (l.take i)) v st.get st.next)) (l.length) ⟨0,by omega,by omega,sl @ai.eq_1,sl @ai.eq_1,sl @ai.eq_1,sl @ai.eq_1,by(try dsimp only);exact⟨by omega,.cj,sd @Nat.zero_add,.inl ⟨rfl,rfl⟩⟩⟩ ?_
 rintro n_a env_a st_a ⟨i,rfl,ale,a9,a8,ag0,ag1,kC⟩ dC
 have a0:=dC 0 (by kernel_rfl);have a2:=dC 2 (by kernel_rfl);have a4:=dC 4 (by kernel_rfl);have a6:=dC 6 (by kernel_rfl);have a7:=dC 7 (by kernel_rfl)
 simp only[go_sem, ↓reduceIte,Nat.reduceEqDiff,Nat.reduceAdd,Nat.reduceSub,Nat.reduceLeDiff,reduceCtorEq,ai]at a0 a2 a4 a6 a7
 clear dC
 obtain⟨an,v,av,aG⟩:=kC
 have vA:=dr (i:=⟨162000000,n0⟩) (n:=st_a.next) (by(try dsimp only);omega)
 have vB:=dr (i:=⟨162000001,n0⟩) (n:=st_a.next) (by(try dsimp only);omega)
 have vC:=dr (i:=⟨162001001,n0+1⟩) (n:=st_a.next) (by(try dsimp only);omega)
 have Nc:=Ir q (l.take i)
 rw[List.length_take]at Nc
 by_cases hi:(i:Int)<(l.length:Int)
 ·have cD:∀{e:Env} {gg:Rows} {nx:Nat},(e 9=.int .i64 (IntKind.i64.wrap ((i:Int)+1)))->(e 8=.bool (uI q (l.take (i+1))))->(gg ⟨162000000,n0⟩=some ⟨true,2,[ai p]⟩)->(gg ⟨162000001,n0⟩=some ⟨true,1,[[.cj]]⟩)->(n0+2<=nx/\∃v,gg ⟨162001001,n0+1⟩=some ⟨true,1,[[v]]⟩/\VT (n0+2) (jf q (l.take (i+1))) v gg nx)->∃m0,m0<(l.length)-i/\∃i:Nat,m0=(l.length)-i/\i<=(l.length)/\e 9=.int .i64 (i:Int)/\e 8=.bool (uI q (l.take i))/\gg ⟨162000000,n0⟩=some ⟨true,2,[ai p]⟩/\gg ⟨162000001,n0⟩=some ⟨true,1,[[.cj]]⟩/\(n0+2<=nx/\∃v,gg ⟨162001001,n0+1⟩=some ⟨true,1,[[v]]⟩/\VT (n0+2) (jf q (l.take i)) v gg nx):=fun x1 x2 x3 x4 x5=>⟨_,by omega,i+1,rfl,by omega,(by rw[x1,az (by omega)]),x2,x3,x4,x5⟩
  have fI:i<l.length:=by omega
  have jm:=fU fI
  have eo:=lX p (aY l i).bj
  have lR:=Dh fI
  have Xy:iW q.bj (aY l i).bj=iW p (aY l i).bj:=by rw[hq]
  have gR:(l.map ah).length=l.length:=by simp
  have L6:=we q (l.take i) (aY l i)
  rw[<-lR,Xy]at L6
  rw[ai,ai]at eo
  by_cases hc:uI q (l.take i)=true∨iW p (aY l i).bj=false
  ·have lO:=K5 (q:=q) (y:=aY l i) (l:=l.take i) (by rw[Xy];exact hc)
   rw[<-lR]at lO
   generalize jf q (l.take i)=L at aG lO Nc
   have rm:=sE L (aY l i)
   have qx:=CN L (aY l i)
   have mM:uI q (l.take (i+1))=uI q (l.take i):=by
    rw[L6]
    rcases hc with h|h<;>rw[h]<;>simp
   rcases aG with⟨hL,rfl⟩|⟨o,rfl,ao,OM,Jq⟩
   ·subst hL
    cases hd:uI q (l.take i)
    ·have h2:iW p (aY l i).bj=false:=by rcases hc with h|h;rw[hd]at h;cases h;exact h
     rw[h2]at eo
     rw[hd]at a8 mM
     (repeat(first|((repeat(revert hN;revert N;apply Pn.out));refine wk (tw @a9 (tw @a8 (tw @ag0 (tw @ag1 (tw @a0 (tw @a2 (tw @a4 (tw @a6 (tw @a7 (tw @hi (tw @jm (tw @vA (tw @vB (tw @vC (tw @av (tw @gR (tw @ai.eq_1 @ah.eq_1))))))))))))))))) ?_;(repeat(refine Pn.mk ?_;intro N hN)))|((try apply Or.inl);refine⟨_,aw.x (eo) (sd (tw @a9 (tw @a8 (tw @ag0 (tw @ag1 (tw @a0 (tw @a2 (tw @a4 (tw @a6 (tw @a7 (tw @hi (tw @jm (tw @vA (tw @vB (tw @vC (tw @av (tw @gR (tw @ai.eq_1 @ah.eq_1)))))))))))))))))),?_⟩;refine hN _ _ ?_;clear hN N)))
     refine cD ?_ ?_ ?_ ?_ (by(try dsimp only);exact⟨by omega,_,sl @Nat.zero_add,.inr ⟨⟨162009010,st_a.next+1+1⟩,by rw[lO,rm]<;>(simp only[go_sem, ↓reduceIte,Nat.reduceEqDiff,Nat.reduceAdd,Nat.reduceSub,Nat.reduceLeDiff,reduceCtorEq]<;>rfl),by rw[lO,qx]<;>(simp only[go_sem, ↓reduceIte,Nat.reduceEqDiff,Nat.reduceAdd,Nat.reduceSub,Nat.reduceLeDiff,reduceCtorEq]<;>rfl),by(try dsimp only);omega,by(try dsimp only);omega⟩⟩)
     all_goals simp only[go_sem, ↓reduceIte,Nat.reduceEqDiff,Nat.reduceAdd,Nat.reduceSub,Nat.reduceLeDiff,reduceCtorEq,a9,a8,ag0,ag1,a0,a2,a4,a6,a7,mM,vA,vB,vC,ai]
    ·rw[hd]at a8 mM
     (try((repeat(revert hN;revert N;apply Pn.out));refine wk (tw @a9 (tw @a8 (tw @ag0 (tw @ag1 (tw @a0 (tw @a2 (tw @a4 (tw @a6 (tw @a7 (tw @hi (tw @jm (tw @vA (tw @vB (tw @vC (tw @av (tw @gR (tw @ai.eq_1 @ah.eq_1))))))))))))))))) ?_;(repeat(refine Pn.mk ?_;intro N hN))))
     refine cD ?_ ?_ ?_ ?_ (by(try dsimp only);exact⟨by omega,_,sl @Nat.zero_add,.inr ⟨⟨162009010,st_a.next+1+1⟩,by rw[lO,rm]<;>(simp only[go_sem, ↓reduceIte,Nat.reduceEqDiff,Nat.reduceAdd,Nat.reduceSub,Nat.reduceLeDiff,reduceCtorEq]<;>rfl),by rw[lO,qx]<;>(simp only[go_sem, ↓reduceIte,Nat.reduceEqDiff,Nat.reduceAdd,Nat.reduceSub,Nat.reduceLeDiff,reduceCtorEq]<;>rfl),by(try dsimp only);omega,by(try dsimp only);omega⟩⟩)
     all_goals simp only[go_sem, ↓reduceIte,Nat.reduceEqDiff,Nat.reduceAdd,Nat.reduceSub,Nat.reduceLeDiff,reduceCtorEq,a9,a8,ag0,ag1,a0,a2,a4,a6,a7,mM,vA,vB,vC,ai]
   ·have vo:=dr Jq
    have oA:=da (a:=⟨162000000,n0⟩) (b:=o) (by(try dsimp only);omega)
    have oB:=da (a:=⟨162000001,n0⟩) (b:=o) (by(try dsimp only);omega)
    have oC:=da (a:=⟨162001001,n0+1⟩) (b:=o) (by(try dsimp only);omega)
    have OX:(L.map ah).length=L.length:=by simp
    have Dv:L.length<=16777215:=by omega
    cases hd:uI q (l.take i)
    ·have h2:iW p (aY l i).bj=false:=by rcases hc with h|h;rw[hd]at h;cases h;exact h
     rw[h2]at eo
     rw[hd]at a8 mM
     (repeat(first|((repeat(revert hN;revert N;apply Pn.out));refine wk (tw @a9 (tw @a8 (tw @ag0 (tw @ag1 (tw @a0 (tw @a2 (tw @a4 (tw @a6 (tw @a7 (tw @hi (tw @jm (tw @vA (tw @vB (tw @vC (tw @vo (tw @oA (tw @oB (tw @oC (tw @ao (tw @av (tw @gR (tw @OX (tw @Dv (tw @ai.eq_1 @ah.eq_1)))))))))))))))))))))))) ?_;(repeat(refine Pn.mk ?_;intro N hN)))|((try apply Or.inl);refine⟨_,aw.x (eo) (sd (tw @a9 (tw @a8 (tw @ag0 (tw @ag1 (tw @a0 (tw @a2 (tw @a4 (tw @a6 (tw @a7 (tw @hi (tw @jm (tw @vA (tw @vB (tw @vC (tw @vo (tw @oA (tw @oB (tw @oC (tw @ao (tw @av (tw @gR (tw @OX (tw @Dv (tw @ai.eq_1 @ah.eq_1))))))))))))))))))))))))),?_⟩;refine hN _ _ ?_;clear hN N)))
     refine cD ?_ ?_ ?_ ?_ (by(try dsimp only);exact⟨by omega,_,sl @Nat.zero_add,.inr ⟨⟨162009010,st_a.next+1+1⟩,by rw[lO,rm]<;>(simp only[go_sem, ↓reduceIte,Nat.reduceEqDiff,Nat.reduceAdd,Nat.reduceSub,Nat.reduceLeDiff,reduceCtorEq]<;>rfl),by rw[lO,qx]<;>(simp only[go_sem, ↓reduceIte,Nat.reduceEqDiff,Nat.reduceAdd,Nat.reduceSub,Nat.reduceLeDiff,reduceCtorEq]<;>rfl),by(try dsimp only);omega,by(try dsimp only);omega⟩⟩)
     all_goals simp only[go_sem, ↓reduceIte,Nat.reduceEqDiff,Nat.reduceAdd,Nat.reduceSub,Nat.reduceLeDiff,reduceCtorEq,a9,a8,ag0,ag1,a0,a2,a4,a6,a7,mM,vA,vB,vC,oA,oB,oC,ai]
    ·rw[hd]at a8 mM
     (try((repeat(revert hN;revert N;apply Pn.out));refine wk (tw @a9 (tw @a8 (tw @ag0 (tw @ag1 (tw @a0 (tw @a2 (tw @a4 (tw @a6 (tw @a7 (tw @hi (tw @jm (tw @vA (tw @vB (tw @vC (tw @vo (tw @oA (tw @oB (tw @oC (tw @ao (tw @av (tw @gR (tw @OX (tw @Dv (tw @ai.eq_1 @ah.eq_1)))))))))))))))))))))))) ?_;(repeat(refine Pn.mk ?_;intro N hN))))
     refine cD ?_ ?_ ?_ ?_ (by(try dsimp only);exact⟨by omega,_,sl @Nat.zero_add,.inr ⟨⟨162009010,st_a.next+1+1⟩,by rw[lO,rm]<;>(simp only[go_sem, ↓reduceIte,Nat.reduceEqDiff,Nat.reduceAdd,Nat.reduceSub,Nat.reduceLeDiff,reduceCtorEq]<;>rfl),by rw[lO,qx]<;>(simp only[go_sem, ↓reduceIte,Nat.reduceEqDiff,Nat.reduceAdd,Nat.reduceSub,Nat.reduceLeDiff,reduceCtorEq]<;>rfl),by(try dsimp only);omega,by(try dsimp only);omega⟩⟩)
     all_goals simp only[go_sem, ↓reduceIte,Nat.reduceEqDiff,Nat.reduceAdd,Nat.reduceSub,Nat.reduceLeDiff,reduceCtorEq,a9,a8,ag0,ag1,a0,a2,a4,a6,a7,mM,vA,vB,vC,oA,oB,oC,ai]
  ·have hd:uI q (l.take i)=false:=by
    cases h:uI q (l.take i)
    ·rfl
    ·exact absurd (.inl h) hc
   have h2:iW p (aY l i).bj=true:=by
    cases h:iW p (aY l i).bj
    ·exact absurd (.inr h) hc
    ·rfl
   have lO:=K4 (q:=q) (y:=aY l i) hd (by rw[Xy];exact h2)
   rw[<-lR]at lO
   have mM:uI q (l.take (i+1))=true:=by rw[L6,h2];simp
   rw[hd]at a8
   rw[h2]at eo
   have Vw:ah q=[.int .i64 p.eM,.int .i64 p.eG,.int .i64 t]:=by rw[hq];rfl
   generalize jf q (l.take i)=L at aG lO Nc
   have rm:=sE (L++[q]) (aY l i)
   have qx:=CN (L++[q]) (aY l i)
   have Xq:=sE L q
   have Xr:(L++[q]).map ah=L.map ah++[[.int .i64 p.eM,.int .i64 p.eG,.int .i64 t]]:=by rw[List.map_append,List.map_singleton,Vw]
   rw[Xq]at rm
   rw[Xr]at qx
   rcases aG with⟨hL,rfl⟩|⟨o,rfl,ao,OM,Jq⟩
   ·subst hL
    (repeat(first|((repeat(revert hN;revert N;apply Pn.out));refine wk (tw @a9 (tw @a8 (tw @ag0 (tw @ag1 (tw @a0 (tw @a2 (tw @a4 (tw @a6 (tw @a7 (tw @hi (tw @jm (tw @vA (tw @vB (tw @vC (tw @av (tw @gR (tw @ai.eq_1 @ah.eq_1))))))))))))))))) ?_;(repeat(refine Pn.mk ?_;intro N hN)))|((try apply Or.inl);refine⟨_,aw.x (eo) (sd (tw @a9 (tw @a8 (tw @ag0 (tw @ag1 (tw @a0 (tw @a2 (tw @a4 (tw @a6 (tw @a7 (tw @hi (tw @jm (tw @vA (tw @vB (tw @vC (tw @av (tw @gR (tw @ai.eq_1 @ah.eq_1)))))))))))))))))),?_⟩;refine hN _ _ ?_;clear hN N)))
    refine cD ?_ ?_ ?_ ?_ (by(try dsimp only);exact⟨by omega,_,sl @Nat.zero_add,.inr ⟨⟨162009010,st_a.next+1+1+1+1⟩,by rw[lO,rm]<;>(simp only[go_sem, ↓reduceIte,Nat.reduceEqDiff,Nat.reduceAdd,Nat.reduceSub,Nat.reduceLeDiff,reduceCtorEq]<;>rfl),by rw[lO,qx]<;>(simp only[go_sem, ↓reduceIte,Nat.reduceEqDiff,Nat.reduceAdd,Nat.reduceSub,Nat.reduceLeDiff,reduceCtorEq]<;>rfl),by(try dsimp only);omega,by(try dsimp only);omega⟩⟩)
    all_goals simp only[go_sem, ↓reduceIte,Nat.reduceEqDiff,Nat.reduceAdd,Nat.reduceSub,Nat.reduceLeDiff,reduceCtorEq,a9,a8,ag0,ag1,a0,a2,a4,a6,a7,mM,vA,vB,vC,ai]
   ·have vo:=dr Jq
    have oA:=da (a:=⟨162000000,n0⟩) (b:=o) (by(try dsimp only);omega)
    have oB:=da (a:=⟨162000001,n0⟩) (b:=o) (by(try dsimp only);omega)
    have oC:=da (a:=⟨162001001,n0+1⟩) (b:=o) (by(try dsimp only);omega)
    have OX:(L.map ah).length=L.length:=by simp
    have Dv:L.length<=16777214:=by omega
    have Tg:L.length<=16777215:=by omega
    (repeat(first|((repeat(revert hN;revert N;apply Pn.out));refine wk (tw @a9 (tw @a8 (tw @ag0 (tw @ag1 (tw @a0 (tw @a2 (tw @a4 (tw @a6 (tw @a7 (tw @hi (tw @jm (tw @vA (tw @vB (tw @vC (tw @vo (tw @oA (tw @oB (tw @oC (tw @ao (tw @av (tw @gR (tw @OX (tw @Dv (tw @Tg (tw @ai.eq_1 @ah.eq_1))))))))))))))))))))))))) ?_;(repeat(refine Pn.mk ?_;intro N hN)))|((try apply Or.inl);refine⟨_,aw.x (eo) (sd (tw @a9 (tw @a8 (tw @ag0 (tw @ag1 (tw @a0 (tw @a2 (tw @a4 (tw @a6 (tw @a7 (tw @hi (tw @jm (tw @vA (tw @vB (tw @vC (tw @vo (tw @oA (tw @oB (tw @oC (tw @ao (tw @av (tw @gR (tw @OX (tw @Dv (tw @Tg (tw @ai.eq_1 @ah.eq_1)))))))))))))))))))))))))),?_⟩;refine hN _ _ ?_;clear hN N)))
    refine cD ?_ ?_ ?_ ?_ (by(try dsimp only);exact⟨by omega,_,sl @Nat.zero_add,.inr ⟨⟨162009010,st_a.next+1+1+1+1⟩,by rw[lO,rm]<;>(simp only[go_sem, ↓reduceIte,Nat.reduceEqDiff,Nat.reduceAdd,Nat.reduceSub,Nat.reduceLeDiff,reduceCtorEq]<;>rfl),by rw[lO,qx]<;>(simp only[go_sem, ↓reduceIte,Nat.reduceEqDiff,Nat.reduceAdd,Nat.reduceSub,Nat.reduceLeDiff,reduceCtorEq]<;>rfl),by(try dsimp only);omega,by(try dsimp only);omega⟩⟩)
    all_goals simp only[go_sem, ↓reduceIte,Nat.reduceEqDiff,Nat.reduceAdd,Nat.reduceSub,Nat.reduceLeDiff,reduceCtorEq,a9,a8,ag0,ag1,a0,a2,a4,a6,a7,mM,vA,vB,vC,oA,oB,oC,ai]
 ·have mj:i=l.length:=by omega
  subst mj
  rw[List.take_length]at a8 aG Nc
  cases hd:uI q l
  ·rw[hd]at a8
   have lO:ga l ⟨p,t⟩=jf q l++[q]:=by rw[<-hq,C6 hd,jf,hd];simp
   have Vw:ah q=[.int .i64 p.eM,.int .i64 p.eG,.int .i64 t]:=by rw[hq];rfl
   generalize jf q l=L at aG Nc lO
   have rm:=sE L q
   have qx:(L++[q]).map ah=L.map ah++[[.int .i64 p.eM,.int .i64 p.eG,.int .i64 t]]:=by rw[List.map_append,List.map_singleton,Vw]
   rcases aG with⟨hL,rfl⟩|⟨o,rfl,ao,OM,Jq⟩
   ·subst hL
    (try((repeat(revert hN;revert N;apply Pn.out));refine wk (tw @a9 (tw @a8 (tw @ag0 (tw @ag1 (tw @a0 (tw @a2 (tw @a4 (tw @a6 (tw @a7 (tw @hi (tw @vA (tw @vB (tw @vC (tw @av (tw @ai.eq_1 @ah.eq_1))))))))))))))) ?_;(repeat(refine Pn.mk ?_;intro N hN))))
    exact fe (.inl rfl) (vs:=[.agg [.own ⟨162011006,st_a.next+1+1⟩ 0 1]]) (sd (tw @a9 (tw @a8 (tw @ag0 (tw @ag1 (tw @a0 (tw @a2 (tw @a4 (tw @a6 (tw @a7 @vB)))))))))) ⟨⟨162011006,st_a.next+1+1⟩,by rw[lO];rfl,by rw[lO];simp only[go_sem, ↓reduceIte,Nat.reduceEqDiff,Nat.reduceAdd,Nat.reduceSub,Nat.reduceLeDiff,reduceCtorEq,vB];rw[Vw],by(try dsimp only);omega,by(try dsimp only);omega⟩
   ·have vo:=dr Jq
    have oA:=da (a:=⟨162000000,n0⟩) (b:=o) (by(try dsimp only);omega)
    have oB:=da (a:=⟨162000001,n0⟩) (b:=o) (by(try dsimp only);omega)
    have oC:=da (a:=⟨162001001,n0+1⟩) (b:=o) (by(try dsimp only);omega)
    have OX:(L.map ah).length=L.length:=by simp
    have Dv:L.length<=16777215:=by omega
    (try((repeat(revert hN;revert N;apply Pn.out));refine wk (tw @a9 (tw @a8 (tw @ag0 (tw @ag1 (tw @a0 (tw @a2 (tw @a4 (tw @a6 (tw @a7 (tw @hi (tw @vA (tw @vB (tw @vC (tw @vo (tw @oA (tw @oB (tw @oC (tw @ao (tw @av (tw @OX (tw @Dv (tw @ai.eq_1 @ah.eq_1)))))))))))))))))))))) ?_;(repeat(refine Pn.mk ?_;intro N hN))))
    exact fe (.inl rfl) (vs:=[.agg [.own ⟨162011006,st_a.next+1+1⟩ 0 (L.length+1)]]) (sd (tw @a9 (tw @a8 (tw @ag0 (tw @ag1 (tw @a0 (tw @a2 (tw @a4 (tw @a6 (tw @a7 @vB)))))))))) ⟨⟨162011006,st_a.next+1+1⟩,by rw[lO,rm];rfl,by rw[lO,qx];simp only[go_sem, ↓reduceIte,Nat.reduceEqDiff,Nat.reduceAdd,Nat.reduceSub,Nat.reduceLeDiff,reduceCtorEq,vB],by(try dsimp only);omega,by(try dsimp only);omega⟩
  ·rw[hd]at a8
   have lO:ga l ⟨p,t⟩=jf q l:=by rw[<-hq,jf,hd];simp
   have jx:0<(jf q l).length:=by rw[<-lO,po];omega
   generalize jf q l=L at aG Nc jx lO
   rcases aG with⟨hL,rfl⟩|⟨o,rfl,ao,OM,Jq⟩
   ·subst hL;cases jx
   ·have vo:=dr Jq
    have oB:=da (a:=⟨162000001,n0⟩) (b:=o) (by(try dsimp only);omega)
    (try((repeat(revert hN;revert N;apply Pn.out));refine wk (tw @a9 (tw @a8 (tw @ag0 (tw @ag1 (tw @a0 (tw @a2 (tw @a4 (tw @a6 (tw @a7 (tw @hi (tw @vA (tw @vB (tw @vC (tw @vo (tw @ao (tw @av (tw @ai.eq_1 @ah.eq_1))))))))))))))))) ?_;(repeat(refine Pn.mk ?_;intro N hN))))
    exact fe (.inl rfl) (vs:=[.agg [.own o 0 L.length]]) (sd (tw @a9 (tw @a8 (tw @ag0 (tw @ag1 (tw @a0 (tw @a2 (tw @a4 (tw @a6 (tw @a7 @vB)))))))))) ⟨o,by rw[lO];rfl,by rw[lO];simp only[go_sem, ↓reduceIte,Nat.reduceEqDiff,Nat.reduceAdd,Nat.reduceSub,Nat.reduceLeDiff,reduceCtorEq,vB,oB,ao],by(try dsimp only);omega,by(try dsimp only);omega⟩
def pa (s:ax) (F:ar->Int) (p:ar) (d:Nat):Int:=if F (bB p d)<0 then 0 else dt (du s (F (bB p d))) (kT d)
def pb (s:ax) (F:ar->Int) (p:ar) (k:Nat):List Int:=(List.range k).map (pa s F p)
theorem Ca (s:ax) (F:ar->Int) (p:ar) (k:Nat):(pb s F p k).length=k:=by simp[pb]
theorem HC (s:ax) (F:ar->Int) (p:ar) (k:Nat):pb s F p (k+1)=pb s F p k++[pa s F p k]:=by simp[pb,List.range_succ]
theorem J3 {s:ax} {F:ar->Int} {p:ar} {k d:Nat} (h:d<k):((pb s F p k).map aQ)[d]? =some [.int .i64 (pa s F p d)]:=by simp[pb,h,aQ]
theorem Hr {s:ax} (hF:je s) {F:ar->Int} (hT:∀q,0<=F q->eW s (F q)=true) {p:ar} {t:Int} (ht:eW s t=true) {d:Nat} (hd:d<4):
  dF s F p t (d+1)=if dt (du s t) d=pa s F p d then dF s F p t d+qq s (pa s F p d)else dF s F p t d:=by
 rw[dF]
 unfold pa
 by_cases h0:F (bB p d)<0
 ·rw[if_neg (by omega),if_pos h0]
  have:qq s 0=0:=if_pos rfl
  rw[this,Int.add_zero]
  split<;>rfl
 ·rw[if_pos (by omega),if_neg h0]
  unfold ib
  split
  ·rename_i e;rw[e]
  ·rw[Int.add_zero]
theorem MP {s:ax} (hF:je s) {F:ar->Int} (hT:∀q,0<=F q->eW s (F q)=true) (p:ar) {d:Nat} (hd:d<4):0<=pa s F p d/\pa s F p d<=s.aB.length:=by
 unfold pa
 split
 ·exact⟨Int.le_refl _,by omega⟩
 ·rename_i h0
  obtain⟨_,_,a2⟩:=ku (hT _ (by omega:0<=F (bB p d)))
  exact hF.uc _ a2 _ (xD (hF.qF _ a2) (rI (jy (by omega))))
noncomputable def zI (s:ax) (l:List ae) (T:Int) (p:ar) (t:Int):Bool:=decide (T<=qu s (gH l) p t)
theorem Mu {s:aM} {l:List ae} {p:ar} (h:Bt l p) (hA:kz s.aC l) (t:Int):eF s l p t=zI s.aC l s.aA p t:=by
 obtain⟨h1,h2,_⟩:=h
 simp[eF,zI,h1,(DU hA p).2 h2]
theorem NH (s:ax) (hS:iu s) (l:List ae) (hA:kz s l) (p:ar) (hx:iB p.eM) (hy:iB p.eG) (T:Int):
  aw Tryz.prog 148 [.dp (aa s),.dp [.sl (l.map ah)],.agg (ai p),.int .i64 T] (.sl ((kV (zI s l T) p s.aj.length).map aQ)):=by
 refine aw.body eK rfl fun lf n0=>?_
 clear lf
 have hF:=hS.form
 have ER:=hS.xK
 have WJ:∀q,0<=gH l q->eW s (gH l q)=true:=iu.ON hA
 (try((repeat(revert hN;revert N;apply Pn.out));refine wk @ai.eq_1 ?_;(repeat(refine Pn.mk ?_;intro N hN))))
 refine aX (fun n env st=>∃k:Nat,n=(4)-k/\k<=(4)/\env 10=.int .i64 (k:Int)/\st.get ⟨148000000,n0⟩=some ⟨true,2,[ai p]⟩/\(n0+2<=st.next/\∃o:Id,env 9=.own o 0 k/\st.get o=some ⟨true,1,(pb s (gH l) p k).map aQ⟩/\n0<o.br/\o.br<st.next)) (4) ⟨0,by omega,by omega,sl @ai.eq_1,sl @ai.eq_1,by(try dsimp only);exact⟨by omega,⟨148001000,n0+1⟩,sl @Nat.zero_add,sl @Nat.zero_add,by(try dsimp only);omega,by(try dsimp only);omega⟩⟩ ?_
 rintro n_a env_a st_a ⟨k,rfl,ale,x7,ag0,kC⟩ dC
 have a0:=dC 0 (by kernel_rfl);have a1:=dC 1 (by kernel_rfl);have a3:=dC 3 (by kernel_rfl);have a6:=dC 6 (by kernel_rfl)
 simp only[go_sem, ↓reduceIte,Nat.reduceEqDiff,Nat.reduceAdd,Nat.reduceSub,Nat.reduceLeDiff,reduceCtorEq,ai]at a0 a1 a3 a6
 clear dC
 obtain⟨an,o,a9,ag,Jq,aox⟩:=kC
 have vo:=dr aox
 have vb:=dr (i:=⟨148000000,n0⟩) (n:=st_a.next) (by(try dsimp only);omega)
 have ob:=da (a:=⟨148000000,n0⟩) (b:=o) (by(try dsimp only);omega)
 by_cases hk:(k:Int)<4
 ·have cD:∀{e:Env} {gg:Rows} {nx:Nat},(e 10=.int .i64 (IntKind.i64.wrap ((k:Int)+1)))->(gg ⟨148000000,n0⟩=some ⟨true,2,[ai p]⟩)->(n0+2<=nx/\∃o:Id,e 9=.own o 0 (k+1)/\gg o=some ⟨true,1,(pb s (gH l) p (k+1)).map aQ⟩/\n0<o.br/\o.br<nx)->∃m0,m0<(4)-k/\∃k:Nat,m0=(4)-k/\k<=(4)/\e 10=.int .i64 (k:Int)/\gg ⟨148000000,n0⟩=some ⟨true,2,[ai p]⟩/\(n0+2<=nx/\∃o:Id,e 9=.own o 0 k/\gg o=some ⟨true,1,(pb s (gH l) p k).map aQ⟩/\n0<o.br/\o.br<nx):=fun x1 x2 x3=>⟨_,by omega,k+1,rfl,by omega,(by rw[x1,az (by omega)]),x2,x3⟩
  have hd:iP (k:Int) 0 3=true:=jy (by omega)
  have eu:=tC p k hd hx hy
  have yg:=NG l (bB p k) hA.1.Rm (by have:=hA.1.zW;omega)
  rw[ai]at eu yg
  have gR:((pb s (gH l) p k).map aQ).length=k:=by rw[List.length_map,Ca]
  have pc:k<=16777215:=by omega
  have HK:=HC s (gH l) p k
  have s7:(pb s (gH l) p (k+1)).map aQ=(pb s (gH l) p k).map aQ++[[.int .i64 (pa s (gH l) p k)]]:=by rw[HK,List.map_append];rfl
  by_cases h0:gH l (bB p k)<0
  ·have rO:pa s (gH l) p k=0:=if_pos h0
   rw[rO]at s7
   (repeat(first|((repeat(revert hN;revert N;apply Pn.out));refine wk (tw @x7 (tw @ag0 (tw @a0 (tw @a1 (tw @a3 (tw @a6 (tw @hk (tw @a9 (tw @ag (tw @vo (tw @vb (tw @ob (tw @gR (tw @pc (tw @h0 @ai.eq_1))))))))))))))) ?_;(repeat(refine Pn.mk ?_;intro N hN)))|((try apply Or.inl);refine⟨_,aw.x (eu) (sd (tw @x7 (tw @ag0 (tw @a0 (tw @a1 (tw @a3 (tw @a6 (tw @hk (tw @a9 (tw @ag (tw @vo (tw @vb (tw @ob (tw @gR (tw @pc (tw @h0 @ai.eq_1)))))))))))))))),?_⟩;refine hN _ _ ?_;clear hN N)|((try apply Or.inl);refine⟨_,aw.x (yg) (sd (tw @x7 (tw @ag0 (tw @a0 (tw @a1 (tw @a3 (tw @a6 (tw @hk (tw @a9 (tw @ag (tw @vo (tw @vb (tw @ob (tw @gR (tw @pc (tw @h0 @ai.eq_1)))))))))))))))),?_⟩;refine hN _ _ ?_;clear hN N)))
   refine cD ?_ ?_ (by(try dsimp only);exact⟨by omega,⟨148007002,st_a.next+1+1+1⟩,sl @Nat.zero_add,by rw[s7];simp only[go_sem, ↓reduceIte,Nat.reduceEqDiff,Nat.reduceAdd,Nat.reduceSub,Nat.reduceLeDiff,reduceCtorEq]<;>rfl,by(try dsimp only);omega,by(try dsimp only);omega⟩)
   all_goals simp only[go_sem, ↓reduceIte,Nat.reduceEqDiff,Nat.reduceAdd,Nat.reduceSub,Nat.reduceLeDiff,reduceCtorEq,x7,ag0,a0,a1,a3,a6,vb,ob,ai]
  ·have rO:pa s (gH l) p k=dt (du s (gH l (bB p k))) (kT k):=if_neg h0
   rw[rO]at s7
   obtain⟨b0,b1,b2⟩:=ku (WJ _ (by omega:0<=gH l (bB p k)))
   have s2:=lG (hF.qF _ b2) (rI hd)
   have d1:=(eD (rI hd)).1
   have ei:=vL k hd
   (repeat(first|((repeat(revert hN;revert N;apply Pn.out));refine wk (tw @x7 (tw @ag0 (tw @a0 (tw @a1 (tw @a3 (tw @a6 (tw @hk (tw @a9 (tw @ag (tw @vo (tw @vb (tw @ob (tw @gR (tw @pc (tw @h0 (tw @b0 (tw @b1 (tw @s2 (tw @d1 (tw @ai.eq_1 (tw @aa.eq_1 @bP.eq_1))))))))))))))))))))) ?_;(repeat(refine Pn.mk ?_;intro N hN)))|((try apply Or.inl);refine⟨_,aw.x (eu) (sd (tw @x7 (tw @ag0 (tw @a0 (tw @a1 (tw @a3 (tw @a6 (tw @hk (tw @a9 (tw @ag (tw @vo (tw @vb (tw @ob (tw @gR (tw @pc (tw @h0 (tw @b0 (tw @b1 (tw @s2 (tw @d1 (tw @ai.eq_1 (tw @aa.eq_1 @bP.eq_1)))))))))))))))))))))),?_⟩;refine hN _ _ ?_;clear hN N)|((try apply Or.inl);refine⟨_,aw.x (yg) (sd (tw @x7 (tw @ag0 (tw @a0 (tw @a1 (tw @a3 (tw @a6 (tw @hk (tw @a9 (tw @ag (tw @vo (tw @vb (tw @ob (tw @gR (tw @pc (tw @h0 (tw @b0 (tw @b1 (tw @s2 (tw @d1 (tw @ai.eq_1 (tw @aa.eq_1 @bP.eq_1)))))))))))))))))))))),?_⟩;refine hN _ _ ?_;clear hN N)|((try apply Or.inl);refine⟨_,aw.x (ei) (sd (tw @x7 (tw @ag0 (tw @a0 (tw @a1 (tw @a3 (tw @a6 (tw @hk (tw @a9 (tw @ag (tw @vo (tw @vb (tw @ob (tw @gR (tw @pc (tw @h0 (tw @b0 (tw @b1 (tw @s2 (tw @d1 (tw @ai.eq_1 (tw @aa.eq_1 @bP.eq_1)))))))))))))))))))))),?_⟩;refine hN _ _ ?_;clear hN N)))
   refine cD ?_ ?_ (by(try dsimp only);exact⟨by omega,⟨148008014,st_a.next+1+1+1⟩,sl @Nat.zero_add,by rw[s7];simp only[go_sem, ↓reduceIte,Nat.reduceEqDiff,Nat.reduceAdd,Nat.reduceSub,Nat.reduceLeDiff,reduceCtorEq]<;>rfl,by(try dsimp only);omega,by(try dsimp only);omega⟩)
   all_goals simp only[go_sem, ↓reduceIte,Nat.reduceEqDiff,Nat.reduceAdd,Nat.reduceSub,Nat.reduceLeDiff,reduceCtorEq,x7,ag0,a0,a1,a3,a6,vb,ob,ai]
 ·have Xc:k=4:=by omega
  subst Xc
  (try((repeat(revert hN;revert N;apply Pn.out));refine wk (tw @x7 (tw @ag0 (tw @a0 (tw @a1 (tw @a3 (tw @a6 (tw @hk @aa.eq_1))))))) ?_;(repeat(refine Pn.mk ?_;intro N hN))))
  refine aX (fun n env st=>∃i:Nat,n=(s.aj.length)-i/\i<=(s.aj.length)/\env 13=.int .i64 (i:Int)/\(st_a.next<=st.next/\st.get o=some ⟨true,1,(pb s (gH l) p 4).map aQ⟩/\∃u:Id,env 12=.own u 0 (kV (zI s l T) p i).length/\st.get u=some ⟨true,1,(kV (zI s l T) p i).map aQ⟩/\st_a.next<=u.br/\u.br<st.next)) (s.aj.length) ⟨0,by omega,by omega,sl (tw @x7 (tw @ag0 (tw @a0 (tw @a1 (tw @a3 (tw @a6 (tw @a9 @aa.eq_1))))))),by(try dsimp only);exact⟨by omega,sd (tw @vo @ag),⟨148009000,st_a.next+1⟩,sl @Nat.zero_add,sl @Nat.zero_add,by(try dsimp only);omega,by(try dsimp only);omega⟩⟩ ?_
  rintro n_b env_b st_b ⟨i,rfl,ble,DW,bI0⟩ eX
  have b0:=eX 0 (by kernel_rfl);have b1:=eX 1 (by kernel_rfl);have b3:=eX 3 (by kernel_rfl);have b9:=eX 9 (by kernel_rfl)
  simp only[go_sem, ↓reduceIte,Nat.reduceEqDiff,Nat.reduceAdd,Nat.reduceSub,Nat.reduceLeDiff,reduceCtorEq,x7,ag0,a0,a1,a3,a6,a9,aa]at b0 b1 b3 b9
  clear eX
  obtain⟨bn,bo,u,SI,bu,bum,bux⟩:=bI0
  have vob:=dr (i:=o) (n:=st_b.next) (by omega)
  have vub:=dr bux
  have EH:=se (zI s l T) p i
  have ou:=da (a:=o) (b:=u) (by omega)
  by_cases hi:(i:Int)<(s.aj.length:Int)
  ·have fh:∀{e:Env} {gg:Rows} {nx:Nat},(e 13=.int .i64 (IntKind.i64.wrap ((i:Int)+1)))->(st_a.next<=nx/\gg o=some ⟨true,1,(pb s (gH l) p 4).map aQ⟩/\∃u:Id,e 12=.own u 0 (kV (zI s l T) p (i+1)).length/\gg u=some ⟨true,1,(kV (zI s l T) p (i+1)).map aQ⟩/\st_a.next<=u.br/\u.br<nx)->∃m0,m0<(s.aj.length)-i/\∃i:Nat,m0=(s.aj.length)-i/\i<=(s.aj.length)/\e 13=.int .i64 (i:Int)/\(st_a.next<=nx/\gg o=some ⟨true,1,(pb s (gH l) p 4).map aQ⟩/\∃u:Id,e 12=.own u 0 (kV (zI s l T) p i).length/\gg u=some ⟨true,1,(kV (zI s l T) p i).map aQ⟩/\st_a.next<=u.br/\u.br<nx):=fun x1 x2=>⟨_,by omega,i+1,rfl,by omega,(by rw[x1,az (by omega)]),x2⟩
   have fI:i<s.aj.length:=by omega
   have htb:=Di fI
   obtain⟨t0,t1,t2⟩:=ku htb
   rw[Int.toNat_natCast]at t1
   have wC:dF s (gH l) p i 0=0:=rfl
   (try((repeat(revert hN;revert N;apply Pn.out));refine wk (tw @DW (tw @b0 (tw @b1 (tw @b3 (tw @b9 @hi))))) ?_;(repeat(refine Pn.mk ?_;intro N hN))))
   refine aX (fun n env st=>∃j:Nat,n=(4)-j/\j<=(4)/\env 15=.int .i64 (j:Int)/\env 14=.int .i64 (dF s (gH l) p i j)/\(st_b.next<=st.next/\∀x:Id,x.br<st_b.next->st.get x=st_b.get x)) (4) ⟨0,by omega,by omega,sl (tw @DW (tw @b0 (tw @b1 (tw @b3 (tw @b9 (tw @a9 (tw @wC @aa.eq_1))))))),sl (tw @DW (tw @b0 (tw @b1 (tw @b3 (tw @b9 (tw @a9 (tw @wC @aa.eq_1))))))),by(try dsimp only);exact⟨by omega,fun x hx=>by
    have h1:=dr hx
    simp only[go_sem, ↓reduceIte,Nat.reduceEqDiff,Nat.reduceAdd,Nat.reduceSub,Nat.reduceLeDiff,reduceCtorEq,h1]⟩⟩ ?_
   rintro n_c env_c st_c ⟨j,rfl,cle,c15,c14,cI0⟩ iO
   have c0:=iO 0 (by kernel_rfl);have c3:=iO 3 (by kernel_rfl);have c9:=iO 9 (by kernel_rfl);have qO:=iO 12 (by kernel_rfl);have JF:=iO 13 (by kernel_rfl)
   simp only[go_sem, ↓reduceIte,Nat.reduceEqDiff,Nat.reduceAdd,Nat.reduceSub,Nat.reduceLeDiff,reduceCtorEq,DW,b0,b1,b3,b9,a9,wC,aa]at c0 c3 c9 qO JF
   clear iO
   obtain⟨cn,iO⟩:=cI0
   have go:=(iO o (by omega)).trans bo
   have gu:=(iO u bux).trans bu
   have UF:=dr (i:=o) (n:=st_c.next) (by omega)
   have vuc:=dr (i:=u) (n:=st_c.next) (by omega)
   by_cases hj:(j:Int)<4
   ·have gN:∀{e:Env} {gg:Rows} {nx:Nat},(e 15=.int .i64 (IntKind.i64.wrap ((j:Int)+1)))->(e 14=.int .i64 (dF s (gH l) p i (j+1)))->(st_b.next<=nx/\∀x:Id,x.br<st_b.next->gg x=st_b.get x)->∃m0,m0<(4)-j/\∃j:Nat,m0=(4)-j/\j<=(4)/\e 15=.int .i64 (j:Int)/\e 14=.int .i64 (dF s (gH l) p i j)/\(st_b.next<=nx/\∀x:Id,x.br<st_b.next->gg x=st_b.get x):=fun x1 x2 x3=>⟨_,by omega,j+1,rfl,by omega,(by rw[x1,az (by omega)]),x2,x3⟩
    have hdj:iP (j:Int) 0 3=true:=jy (by omega)
    have QD:(j:Int)<((4:Nat):Int):=by omega
    have s1:=lG (hF.qF _ t2) hdj
    rw[Int.toNat_natCast]at s1
    have TE:=J3 (s:=s) (F:=gH l) (p:=p) (k:=4) (d:=j) (by omega)
    have s6:((pb s (gH l) p 4).map aQ).length=4:=by rw[List.length_map,Ca]
    have eu:=Hr hF WJ (p:=p) htb (d:=j) (by omega)
    have fJ:=kf hS (gH l) p i (j+1)
    have M0:=kf hS (gH l) p i j
    have jm:=MP hF WJ p (d:=j) (by omega)
    have Vz:=qz s (pa s (gH l) p j) jm.1 jm.2
    rw[aa]at Vz
    by_cases he:dt (du s i) j=pa s (gH l) p j
    ·have Af:decide (dt (du s i) j=pa s (gH l) p j)=true:=decide_eq_true he
     rw[if_pos he]at eu
     have hw:IntKind.i64.wrap (dF s (gH l) p i j+qq s (pa s (gH l) p j))=dF s (gH l) p i (j+1):=by rw[<-eu,bK (by omega)]
     (repeat(first|((repeat(revert hN;revert N;apply Pn.out));refine wk (tw @c15 (tw @c14 (tw @c0 (tw @c3 (tw @c9 (tw @qO (tw @JF (tw @hj (tw @QD (tw @t1 (tw @s1 (tw @TE (tw @go (tw @UF (tw @Af (tw @aa.eq_1 @bP.eq_1)))))))))))))))) ?_;(repeat(refine Pn.mk ?_;intro N hN)))|((try apply Or.inl);refine⟨_,aw.x (Vz) (sd (tw @c15 (tw @c14 (tw @c0 (tw @c3 (tw @c9 (tw @qO (tw @JF (tw @hj (tw @QD (tw @t1 (tw @s1 (tw @TE (tw @go (tw @UF (tw @Af (tw @aa.eq_1 @bP.eq_1))))))))))))))))),?_⟩;refine hN _ _ ?_;clear hN N)))
     refine gN ?_ ?_ (by(try dsimp only);exact⟨by omega,fun x hx=>by exact iO x hx⟩)
     all_goals simp only[go_sem, ↓reduceIte,Nat.reduceEqDiff,Nat.reduceAdd,Nat.reduceSub,Nat.reduceLeDiff,reduceCtorEq,c15,c14,c0,c3,c9,qO,JF,hw,aa]
    ·have Af:decide (dt (du s i) j=pa s (gH l) p j)=false:=decide_eq_false he
     rw[if_neg he]at eu
     (try((repeat(revert hN;revert N;apply Pn.out));refine wk (tw @c15 (tw @c14 (tw @c0 (tw @c3 (tw @c9 (tw @qO (tw @JF (tw @hj (tw @QD (tw @t1 (tw @s1 (tw @TE (tw @go (tw @UF (tw @Af (tw @aa.eq_1 @bP.eq_1)))))))))))))))) ?_;(repeat(refine Pn.mk ?_;intro N hN))))
     refine gN ?_ ?_ (by(try dsimp only);exact⟨by omega,fun x hx=>by exact iO x hx⟩)
     all_goals simp only[go_sem, ↓reduceIte,Nat.reduceEqDiff,Nat.reduceAdd,Nat.reduceSub,Nat.reduceLeDiff,reduceCtorEq,c15,c14,c0,c3,c9,qO,JF,eu,aa]
   ·have hj4:j=4:=by omega
    subst hj4
    have iI:dF s (gH l) p i 4=qu s (gH l) p i:=rfl
    have uM:kV (zI s l T) p (i+1)=if zI s l T p i=true then kV (zI s l T) p i++[(i:Int)]else kV (zI s l T) p i:=rfl
    have oq:zI s l T p i=decide (T<=qu s (gH l) p i):=rfl
    generalize kV (zI s l T) p i=L at uM SI bu EH gu
    cases hb:zI s l T p i
    ·rw[hb,if_neg (by simp)]at uM
     rw[hb]at oq
     (try((repeat(revert hN;revert N;apply Pn.out));refine wk (tw @c15 (tw @c14 (tw @c0 (tw @c3 (tw @c9 (tw @qO (tw @JF (tw @hj (tw @iI @oq.symm))))))))) ?_;(repeat(refine Pn.mk ?_;intro N hN))))
     exact fh (sd (tw @DW (tw @b0 (tw @b1 (tw @b3 (tw @b9 (tw @c15 (tw @c14 (tw @c0 (tw @c3 (tw @c9 (tw @qO (tw @JF @aa.eq_1))))))))))))) (by(try dsimp only);exact⟨by omega,go,⟨u,by rw[uM];simp only[go_sem, ↓reduceIte,Nat.reduceEqDiff,Nat.reduceAdd,Nat.reduceSub,Nat.reduceLeDiff,reduceCtorEq,c15,c14,c0,c3,c9,qO,JF,SI],by rw[uM];simp only[go_sem, ↓reduceIte,Nat.reduceEqDiff,Nat.reduceAdd,Nat.reduceSub,Nat.reduceLeDiff,reduceCtorEq,gu],by omega,by(try dsimp only);omega⟩⟩)
    ·rw[hb,if_pos rfl]at uM
     rw[hb]at oq
     have gR:(L.map aQ).length=L.length:=by simp
     have hL1:L.length<=16777215:=by omega
     have rm:(L++[(i:Int)]).length=L.length+1:=by simp
     have qx:(L++[(i:Int)]).map aQ=L.map aQ++[[.int .i64 i]]:=by rw[List.map_append];rfl
     (try((repeat(revert hN;revert N;apply Pn.out));refine wk (tw @c15 (tw @c14 (tw @c0 (tw @c3 (tw @c9 (tw @qO (tw @JF (tw @hj (tw @iI (tw @oq.symm (tw @SI (tw @gu (tw @vuc (tw @gR (tw @hL1 (tw @UF @ou)))))))))))))))) ?_;(repeat(refine Pn.mk ?_;intro N hN))))
     exact fh (sd (tw @DW (tw @b0 (tw @b1 (tw @b3 (tw @b9 (tw @c15 (tw @c14 (tw @c0 (tw @c3 (tw @c9 (tw @qO (tw @JF @aa.eq_1))))))))))))) (by(try dsimp only);exact⟨by omega,sd (tw @go (tw @UF @ou)),⟨⟨148020003,st_c.next+1+1⟩,by rw[uM,rm];simp only[go_sem, ↓reduceIte,Nat.reduceEqDiff,Nat.reduceAdd,Nat.reduceSub,Nat.reduceLeDiff,reduceCtorEq]<;>rfl,by rw[uM,qx];simp only[go_sem, ↓reduceIte,Nat.reduceEqDiff,Nat.reduceAdd,Nat.reduceSub,Nat.reduceLeDiff,reduceCtorEq]<;>rfl,by(try dsimp only);omega,by(try dsimp only);omega⟩⟩)
  ·have mj:i=s.aj.length:=by omega
   subst mj
   (try((repeat(revert hN;revert N;apply Pn.out));refine wk (tw @DW (tw @b0 (tw @b1 (tw @b3 (tw @b9 (tw @hi @SI)))))) ?_;(repeat(refine Pn.mk ?_;intro N hN))))
   exact pr (.inl rfl) (vs:=[.own u 0 (kV (zI s l T) p s.aj.length).length]) (sd @SI) (by
    simp only[fx]
    exact fA (e:=aQ) (n:=5) bu rfl fun x=>by simp[aQ,bV,cY,eL])
noncomputable def iM (s:aM) (ts:List ae) (q:ar):List Int:=kV (eF s ts) q s.aC.aj.length
def iG (σ:ay) (O:Id) (s:aM) (ts:List ae) (A:ar->Prop) (g:Rows) (n:Nat):Prop:=σ.next<=n/\(∀x:Id,x.br<σ.next->x≠O->g x=σ.get x)/\∃es:List En,g O=some ⟨true,mP.mz,es.map pM⟩/\xV g n es (iM s ts) A
theorem iG.R4 {σ:ay} {g:Rows} {n:Nat} {c T O:Id} {s s':aM} {ts Mj:List ae} {A:ar->Prop} (h:Br σ.get σ.next c T O s ts) (hc:c≠O) (hT:T≠O) (k:iG σ O s' Mj A g n):Br g n c T O s ts:=
 h.frame k.1 (k.2.1 _ h.cv hc) (k.2.1 _ h.tv hT)
theorem iG.frame {a:ay} {O:Id} {s:aM} {ts:List ae} {A:ar->Prop} {g g':Rows} {n n' m:Nat} (h:iG a O s ts A g n) (ha:n<=m) (ho:O.br<m) (hn:n<=n') (hf:∀x:Id,x.br<m->g' x=g x):iG a O s ts A g' n':=by
 refine⟨Nat.le_trans h.1 hn,fun x hx hO=>(hf x (Nat.lt_of_lt_of_le hx (Nat.le_trans h.1 ha))).trans (h.2.1 x hx hO),?_⟩
 obtain⟨es,h1,h2⟩:=h.2.2
 exact⟨es,(hf O ho).trans h1,h2.frame hn fun x hx _=>hf x (Nat.lt_of_lt_of_le hx ha)⟩
theorem Fs:¬mP.mz=1:=by decide
theorem iG.put {a:ay} {O:Id} {s:aM} {ts:List ae} {A A':ar->Prop} {g g':Rows} {n n':Nat} {es:List En} (h:iG a O s ts A g n) (hg:g O=some ⟨true,mP.mz,es.map pM⟩) (hw:xV g n es (iM s ts) A) (hn:n<=n') (hf:∀x:Id,x.br<n->x≠O->g' x=g x) {q:ar} {o:Id} (h0:iM s ts q≠[]) (ho:o.br<n') (uL:g' o=some ⟨true,1,(iM s ts q).map aQ⟩) (hO:g' O=some ⟨true,mP.mz,(nG es q (.own o 0 (iM s ts q).length)).map pM⟩) (hA:∀p,A' p->A p∨p=q):iG a O s ts A' g' n':=
 ⟨Nat.le_trans h.1 hn,fun x hx Nu=>(hf x (Nat.lt_of_lt_of_le hx h.1) Nu).trans (h.2.1 x hx Nu),_,hO,((hw.frame hn fun x hx hr=>hf x hx (by
  rintro rfl
  obtain⟨k,r,hr⟩:=hr
  rw[hg]at hr
  injection hr with hr
  injection hr with _ hr _
  exact Fs hr)).put h0 ho uL).mono hA⟩
theorem iG.cut {a:ay} {O:Id} {s:aM} {ts:List ae} {A A':ar->Prop} {g g':Rows} {n n':Nat} {es:List En} (h:iG a O s ts A g n) (hg:g O=some ⟨true,mP.mz,es.map pM⟩) (hw:xV g n es (iM s ts) A) (hn:n<=n') (hf:∀x:Id,x.br<n->x≠O->g' x=g x) {q:ar} (h0:iM s ts q=[]) (hO:g' O=some ⟨true,mP.mz,(r9 es q).map pM⟩) (hA:∀p,A' p->A p∨p=q):iG a O s ts A' g' n':=
 ⟨Nat.le_trans h.1 hn,fun x hx Nu=>(hf x (Nat.lt_of_lt_of_le hx h.1) Nu).trans (h.2.1 x hx Nu),_,hO,((hw.frame hn fun x hx hr=>hf x hx (by
  rintro rfl
  obtain⟨k,r,hr⟩:=hr
  rw[hg]at hr
  injection hr with hr
  injection hr with _ hr _
  exact Fs hr)).cut h0).mono hA⟩
theorem iG.ow {a:ay} {O:Id} {s:aM} {ts:List ae} {A:ar->Prop} {g:Rows} {n:Nat} (h:iG a O s ts A g n):OI a O g n:=by
 obtain⟨h1,h2,es,h3,_⟩:=h
 refine⟨h1,h2,_,h3,fun r hr=>?_⟩
 obtain⟨e,_,rfl⟩:=List.mem_map.1 hr
 exact⟨_,_,_,rfl⟩
theorem Aw {σ:ay} {c T O:Id} {s:aM} {ts:List ae} (h:Br σ.get σ.next c T O s ts) (hc:c≠O) (hT:T≠O) (A:ar->Prop) (hO:∃es:List En,σ.get O=some ⟨true,mP.mz,es.map pM⟩/\xV σ.get σ.next es (iM s ts) A) (hS:iu s.aC) (hF:∀q,0<=gH ts q->eW s.aC (gH ts q)=true) (p:ar) (hx:iB p.eM) (hy:iB p.eG):
  Call Tryz.prog 151 [.ptr c 0 0,.agg (ai p)] σ (fun r σ'=>r=.iA []/\iG σ O s ts (fun q=>A q∨∃k:Nat,k<4/\q=bB p k) σ'.get σ'.next):=by
 refine e6 eK rfl fun lf=>?_
 clear lf
 have ER:=hS.xK
 have h0:iG σ O s ts (fun q=>A q∨∃k:Nat,k<0/\q=bB p k) σ.get σ.next:=⟨Nat.le_refl _,fun _ _ _=>rfl,by
  obtain⟨es,h1,h2⟩:=hO
  exact⟨es,h1,h2.mono fun q hq=>hq.elim id fun⟨k,hk,_⟩=>absurd hk (Nat.not_lt_zero k)⟩⟩
 (try((repeat(revert hN;revert N;apply Pn.out));refine wk @ai.eq_1 ?_;(repeat(refine Pn.mk ?_;intro N hN))))
 refine aX (fun n env st=>∃k:Nat,n=(4)-k/\k<=(4)/\env 8=.int .i64 (k:Int)/\st.get ⟨151000000,σ.next⟩=some ⟨true,2,[ai p]⟩/\(σ.next<st.next/\iG σ O s ts (fun q=>A q∨∃j:Nat,j<k/\q=bB p j) st.get st.next)) (4) ⟨0,by omega,by omega,sl @ai.eq_1,sl @ai.eq_1,⟨by(try dsimp only);omega,h0.frame (Nat.le_refl _) h.ov (by(try dsimp only);omega) (fun x hx=>by
  have:=dr hx
  simp only[go_sem, ↓reduceIte,Nat.reduceEqDiff,Nat.reduceAdd,Nat.reduceSub,Nat.reduceLeDiff,reduceCtorEq,this])⟩⟩ ?_
 rintro n_a env_a st_a ⟨k,rfl,ale,a8,ag0,kC⟩ dC
 have a0:=dC 0 (by kernel_rfl);have a3:=dC 3 (by kernel_rfl)
 simp only[go_sem, ↓reduceIte,Nat.reduceEqDiff,Nat.reduceAdd,Nat.reduceSub,Nat.reduceLeDiff,reduceCtorEq,ai]at a0 a3
 clear dC
 obtain⟨an,ak⟩:=kC
 have ha:=ak.R4 h hc hT
 by_cases hk:(k:Int)<4
 ·have cD:∀{e:Env} {gg:Rows} {nx:Nat},(e 8=.int .i64 (IntKind.i64.wrap ((k:Int)+1)))->(gg ⟨151000000,σ.next⟩=some ⟨true,2,[ai p]⟩)->(σ.next<nx/\iG σ O s ts (fun q=>A q∨∃j:Nat,j<(k+1)/\q=bB p j) gg nx)->∃m0,m0<(4)-k/\∃k:Nat,m0=(4)-k/\k<=(4)/\e 8=.int .i64 (k:Int)/\gg ⟨151000000,σ.next⟩=some ⟨true,2,[ai p]⟩/\(σ.next<nx/\iG σ O s ts (fun q=>A q∨∃j:Nat,j<k/\q=bB p j) gg nx):=fun x1 x2 x3=>⟨_,by omega,k+1,rfl,by omega,(by rw[x1,az (by omega)]),x2,x3⟩
  have eu:=FC p k (jy (by omega)) hx hy
  obtain⟨b,h1⟩:=ha.row
  have v1:=dr ha.cv
  (repeat(first|((repeat(revert hN;revert N;apply Pn.out));refine wk (tw @a8 (tw @ag0 (tw @a0 (tw @a3 (tw @hk (tw @h1 (tw @v1 @ai.eq_1))))))) ?_;(repeat(refine Pn.mk ?_;intro N hN)))|((try apply Or.inl);refine⟨_,aw.x (eu) (sd (tw @a8 (tw @ag0 (tw @a0 (tw @a3 (tw @hk (tw @h1 (tw @v1 @ai.eq_1)))))))),?_⟩;refine hN _ _ ?_;clear hN N)))
  refine aX (fun n env st=>∃t:Nat,n=(s.aC.aj.length)-t/\t<=(s.aC.aj.length)/\env 21=.int .i64 (t:Int)/\st.get ⟨151000000,σ.next⟩=some ⟨true,2,[ai p]⟩/\st.get ⟨151004003,st_a.next+1+1⟩=some ⟨true,2,[ai (bB p k)]⟩/\(st_a.next+3<=st.next/\iG σ O s ts (fun q=>A q∨∃j:Nat,j<k/\q=bB p j) st.get st_a.next/\((kV (eF s ts) (bB p k) t=[]/\env 6=.cj)∨∃o:Id,env 6=.own o 0 (kV (eF s ts) (bB p k) t).length/\st.get o=some ⟨true,1,(kV (eF s ts) (bB p k) t).map aQ⟩/\0<(kV (eF s ts) (bB p k) t).length/\st_a.next+3<=o.br/\o.br<st.next))) (s.aC.aj.length) ⟨0,by omega,by omega,sl (tw @a8 (tw @ag0 (tw @a0 (tw @a3 @ai.eq_1)))),sl (tw @a8 (tw @ag0 (tw @a0 (tw @a3 @ai.eq_1)))),sl (tw @a8 (tw @ag0 (tw @a0 (tw @a3 @ai.eq_1)))),⟨by(try dsimp only);omega,ak.frame (Nat.le_refl _) ha.ov (Nat.le_refl _) (fun x hx=>(by
   have:=dr hx
   simp only[go_sem, ↓reduceIte,Nat.reduceEqDiff,Nat.reduceAdd,Nat.reduceSub,Nat.reduceLeDiff,reduceCtorEq,this])),.inl ⟨rfl,sd @Nat.zero_add⟩⟩⟩ ?_
  rintro n_b env_b st_b ⟨t,rfl,ble,b21,bg0,bg1,bI0⟩ eX
  have b0:=eX 0 (by kernel_rfl);have b3:=eX 3 (by kernel_rfl);have b5:=eX 5 (by kernel_rfl);have b8:=eX 8 (by kernel_rfl);have I2:=eX 20 (by kernel_rfl)
  simp only[go_sem, ↓reduceIte,Nat.reduceEqDiff,Nat.reduceAdd,Nat.reduceSub,Nat.reduceLeDiff,reduceCtorEq,a8,ag0,a0,a3,ai]at b0 b3 b5 b8 I2
  clear eX
  obtain⟨bn,bk,b6⟩:=bI0
  have Sa:Br st_b.get st_b.next c T O s ts:=(bk.R4 h hc hT).frame (by omega) rfl rfl
  obtain⟨b2,h2⟩:=Sa.row
  have v2:=dr Sa.cv
  have vt:=dr (i:=⟨151000000,σ.next⟩) (n:=st_b.next) (by(try dsimp only);omega)
  have vq:=dr (i:=⟨151004003,st_a.next+1+1⟩) (n:=st_b.next) (by(try dsimp only);omega)
  by_cases ht:(t:Int)<(s.aC.aj.length:Int)
  ·have fh:∀{e:Env} {gg:Rows} {nx:Nat},(e 21=.int .i64 (IntKind.i64.wrap ((t:Int)+1)))->(gg ⟨151000000,σ.next⟩=some ⟨true,2,[ai p]⟩)->(gg ⟨151004003,st_a.next+1+1⟩=some ⟨true,2,[ai (bB p k)]⟩)->(st_a.next+3<=nx/\iG σ O s ts (fun q=>A q∨∃j:Nat,j<k/\q=bB p j) gg st_a.next/\((kV (eF s ts) (bB p k) (t+1)=[]/\e 6=.cj)∨∃o:Id,e 6=.own o 0 (kV (eF s ts) (bB p k) (t+1)).length/\gg o=some ⟨true,1,(kV (eF s ts) (bB p k) (t+1)).map aQ⟩/\0<(kV (eF s ts) (bB p k) (t+1)).length/\st_a.next+3<=o.br/\o.br<nx))->∃m0,m0<(s.aC.aj.length)-t/\∃t:Nat,m0=(s.aC.aj.length)-t/\t<=(s.aC.aj.length)/\e 21=.int .i64 (t:Int)/\gg ⟨151000000,σ.next⟩=some ⟨true,2,[ai p]⟩/\gg ⟨151004003,st_a.next+1+1⟩=some ⟨true,2,[ai (bB p k)]⟩/\(st_a.next+3<=nx/\iG σ O s ts (fun q=>A q∨∃j:Nat,j<k/\q=bB p j) gg st_a.next/\((kV (eF s ts) (bB p k) t=[]/\e 6=.cj)∨∃o:Id,e 6=.own o 0 (kV (eF s ts) (bB p k) t).length/\gg o=some ⟨true,1,(kV (eF s ts) (bB p k) t).map aQ⟩/\0<(kV (eF s ts) (bB p k) t).length/\st_a.next+3<=o.br/\o.br<nx)):=fun x1 x2 x3 x4=>⟨_,by omega,t+1,rfl,by omega,(by rw[x1,az (by omega)]),x2,x3,x4⟩
   have QW:t<s.aC.aj.length:=by omega
   have EH:=se (eF s ts) (bB p k) t
   have uM:kV (eF s ts) (bB p k) (t+1)=if eF s ts (bB p k) t=true then kV (eF s ts) (bB p k) t++[(t:Int)]else kV (eF s ts) (bB p k) t:=rfl
   generalize kV (eF s ts) (bB p k) t=L at b6 EH uM
   (try((repeat(revert hN;revert N;apply Pn.out));refine wk (tw @b21 (tw @bg0 (tw @bg1 (tw @b0 (tw @b3 (tw @b5 (tw @b8 (tw @I2 (tw @ht (tw @h2 (tw @v2 (tw @vt (tw @vq @ai.eq_1))))))))))))) ?_;(repeat(refine Pn.mk ?_;intro N hN))))
   refine .inl ⟨_,P8 (Sa.frame (by(try dsimp only);omega) (sd @v2) (by(have:=dr Sa.tv;simp only[go_sem, ↓reduceIte,Nat.reduceEqDiff,Nat.reduceAdd,Nat.reduceSub,Nat.reduceLeDiff,reduceCtorEq,this]))) hS hF (bB p k) t (Di QW),?_⟩
   refine hN _ _ ?_
   clear hN N
   cases hb:eF s ts (bB p k) t
   ·rw[hb,if_neg (by simp)]at uM
    (try((repeat(revert hN;revert N;apply Pn.out));refine wk (tw @b21 (tw @bg0 (tw @bg1 (tw @b0 (tw @b3 (tw @b5 (tw @b8 (tw @I2 @hb)))))))) ?_;(repeat(refine Pn.mk ?_;intro N hN))))
    refine fh ?_ ?_ ?_ (by(try dsimp only);exact⟨by omega,bk.frame (Nat.le_refl _) ha.ov (Nat.le_refl _) (fun x hx=>by
      have h1:=dr (i:=x) (n:=st_b.next) (by omega)
      simp only[go_sem, ↓reduceIte,Nat.reduceEqDiff,Nat.reduceAdd,Nat.reduceSub,Nat.reduceLeDiff,reduceCtorEq,h1]),by
     rw[uM]
     rcases b6 with⟨hL,h⟩|⟨o,h1,h2,h3,h4,h5⟩
     ·exact .inl ⟨hL,sd @h⟩
     ·have h8:=dr h5
      exact .inr ⟨o,sd @h1,sd (tw @h2 @h8),h3,h4,by omega⟩⟩)
    all_goals simp only[go_sem, ↓reduceIte,Nat.reduceEqDiff,Nat.reduceAdd,Nat.reduceSub,Nat.reduceLeDiff,reduceCtorEq,b21,bg0,bg1,b0,b3,b5,b8,I2,ai,vt,vq]
   ·rw[hb,if_pos rfl]at uM
    have rm:(L++[(t:Int)]).length=L.length+1:=by simp
    have qx:(L++[(t:Int)]).map aQ=L.map aQ++[[.int .i64 t]]:=by rw[List.map_append];rfl
    rcases b6 with⟨hL,b6⟩|⟨o,b6,bo,o4,o6,o7⟩
    ·subst hL
     (try((repeat(revert hN;revert N;apply Pn.out));refine wk (tw @b21 (tw @bg0 (tw @bg1 (tw @b0 (tw @b3 (tw @b5 (tw @b8 (tw @I2 (tw @b6 @hb))))))))) ?_;(repeat(refine Pn.mk ?_;intro N hN))))
     refine fh ?_ ?_ ?_ (by(try dsimp only);exact⟨by omega,bk.frame (Nat.le_refl _) ha.ov (Nat.le_refl _) (fun x hx=>by
      have h1:=dr (i:=x) (n:=st_b.next) (by omega)
      simp only[go_sem, ↓reduceIte,Nat.reduceEqDiff,Nat.reduceAdd,Nat.reduceSub,Nat.reduceLeDiff,reduceCtorEq,h1]),.inr ⟨⟨151010003,st_b.next+1+1+1⟩,by rw[uM,rm];simp only[go_sem, ↓reduceIte,Nat.reduceEqDiff,Nat.reduceAdd,Nat.reduceSub,Nat.reduceLeDiff,reduceCtorEq]<;>rfl,by rw[uM,qx];simp only[go_sem, ↓reduceIte,Nat.reduceEqDiff,Nat.reduceAdd,Nat.reduceSub,Nat.reduceLeDiff,reduceCtorEq]<;>rfl,by rw[uM,rm];omega,by(try dsimp only);omega,by(try dsimp only);omega⟩⟩)
     all_goals simp only[go_sem, ↓reduceIte,Nat.reduceEqDiff,Nat.reduceAdd,Nat.reduceSub,Nat.reduceLeDiff,reduceCtorEq,b21,bg0,bg1,b0,b3,b5,b8,I2,ai,vt,vq]
    ·have e1:L.length<=16777215:=by omega
     have wG:(L.map aQ).length=L.length:=by simp
     have vo:=dr o7
     have vto:=da (a:=⟨151000000,σ.next⟩) (b:=o) (by(try dsimp only);omega)
     have vqo:=da (a:=⟨151004003,st_a.next+1+1⟩) (b:=o) (by(try dsimp only);omega)
     (try((repeat(revert hN;revert N;apply Pn.out));refine wk (tw @b21 (tw @bg0 (tw @bg1 (tw @b0 (tw @b3 (tw @b5 (tw @b8 (tw @I2 (tw @b6 (tw @bo (tw @hb (tw @e1 (tw @wG @vo))))))))))))) ?_;(repeat(refine Pn.mk ?_;intro N hN))))
     refine fh ?_ ?_ ?_ (by(try dsimp only);exact⟨by omega,bk.frame (Nat.le_refl _) ha.ov (Nat.le_refl _) (fun x hx=>by
      have h1:=dr (i:=x) (n:=st_b.next) (by omega)
      have h2:=da (a:=x) (b:=o) (by omega)
      simp only[go_sem, ↓reduceIte,Nat.reduceEqDiff,Nat.reduceAdd,Nat.reduceSub,Nat.reduceLeDiff,reduceCtorEq,h1,h2]),.inr ⟨⟨151010003,st_b.next+1+1+1⟩,by rw[uM,rm];simp only[go_sem, ↓reduceIte,Nat.reduceEqDiff,Nat.reduceAdd,Nat.reduceSub,Nat.reduceLeDiff,reduceCtorEq]<;>rfl,by rw[uM,qx];simp only[go_sem, ↓reduceIte,Nat.reduceEqDiff,Nat.reduceAdd,Nat.reduceSub,Nat.reduceLeDiff,reduceCtorEq]<;>rfl,by rw[uM,rm];omega,by(try dsimp only);omega,by(try dsimp only);omega⟩⟩)
     all_goals simp only[go_sem, ↓reduceIte,Nat.reduceEqDiff,Nat.reduceAdd,Nat.reduceSub,Nat.reduceLeDiff,reduceCtorEq,b21,bg0,bg1,b0,b3,b5,b8,I2,ai,vt,vq,vto,vqo]
  ·obtain⟨es,hg,how⟩:=bk.2.2
   have vo:=dr Sa.ov
   obtain⟨fi,Gp,so,Qt,_,_⟩:=zh (bB p k) es
   unfold dD at so
   unfold dI at Qt
   have hq:((⟨151000000,σ.next⟩:Id)=O)=False:=(da (a:=O) (b:=⟨151000000,σ.next⟩) (by have:=h.ov;(try dsimp only);omega)).2
   have htt:t=s.aC.aj.length:=by omega
   subst htt
   have qj:kV (eF s ts) (bB p k) s.aC.aj.length=iM s ts (bB p k):=rfl
   rw[qj]at b6
   have hAk:∀q,(A q∨∃j:Nat,j<k+1/\q=bB p j)->(A q∨∃j:Nat,j<k/\q=bB p j)∨q=bB p k:=fun q hq=>by
    rcases hq with hq|⟨j,hj,hq⟩
    ·exact .inl (.inl hq)
    ·rcases Nat.lt_or_ge j k with h|h
     ·exact .inl (.inr ⟨j,h,hq⟩)
     ·exact .inr (by rw[hq,show j=k by omega])
   rcases b6 with⟨hL,b6⟩|⟨o,b6,bo,o4,o6,o7⟩
   ·have d0:decide ((0:Int)<((0:Nat):Int))=false:=rfl
    (try((repeat(revert hN;revert N;apply Pn.out));refine wk (tw @b21 (tw @bg0 (tw @bg1 (tw @b0 (tw @b3 (tw @b5 (tw @b8 (tw @I2 (tw @b6 (tw @ht (tw @h2 (tw @v2 (tw @vt (tw @vq (tw @vo (tw @hg (tw @Gp (tw @Qt (tw @ai.eq_1 @d0))))))))))))))))))) ?_;(repeat(refine Pn.mk ?_;intro N hN))))
    refine cD ?_ ?_ (by(try dsimp only);exact⟨by omega,bk.cut hg how (by omega) (fun x hx Nu=>by
     have h1:=dr (i:=x) (n:=st_b.next) (by omega)
     have h2:(x=O)=False:=eq_false Nu
     simp only[go_sem, ↓reduceIte,Nat.reduceEqDiff,Nat.reduceAdd,Nat.reduceSub,Nat.reduceLeDiff,reduceCtorEq,h1,h2]) hL (sl @Qt) hAk⟩)
    all_goals simp only[go_sem, ↓reduceIte,Nat.reduceEqDiff,Nat.reduceAdd,Nat.reduceSub,Nat.reduceLeDiff,reduceCtorEq,a8,ag0,a0,a3,b21,bg0,bg1,b0,b3,b5,b8,I2,ai,vt,vo,hq]
   ·have ij:iM s ts (bB p k)≠[]:=fun e=>by rw[e]at o4;cases o4
    have d1:decide ((0:Int)<((iM s ts (bB p k)).length:Int))=true:=decide_eq_true (by omega)
    have Kn:=so (.own o 0 (iM s ts (bB p k)).length)
    have v8:=dr o7
    have oO:(o=O)=False:=eq_false (by
     rintro rfl
     rw[hg]at bo
     injection bo with bo
     injection bo with _ bo _
     exact Fs bo)
    (try((repeat(revert hN;revert N;apply Pn.out));refine wk (tw @b21 (tw @bg0 (tw @bg1 (tw @b0 (tw @b3 (tw @b5 (tw @b8 (tw @I2 (tw @b6 (tw @ht (tw @h2 (tw @v2 (tw @vt (tw @vq (tw @vo (tw @hg (tw @Gp (tw @Kn (tw @ai.eq_1 @d1))))))))))))))))))) ?_;(repeat(refine Pn.mk ?_;intro N hN))))
    refine cD ?_ ?_ (by(try dsimp only);exact⟨by omega,bk.put hg how (by omega) (fun x hx Nu=>by
     have h1:=dr (i:=x) (n:=st_b.next) (by omega)
     have h2:(x=O)=False:=eq_false Nu
     simp only[go_sem, ↓reduceIte,Nat.reduceEqDiff,Nat.reduceAdd,Nat.reduceSub,Nat.reduceLeDiff,reduceCtorEq,h1,h2]) (o:=o) ij (by omega) (sd (tw @oO (tw @v8 @bo))) (sl @Kn) hAk⟩)
    all_goals simp only[go_sem, ↓reduceIte,Nat.reduceEqDiff,Nat.reduceAdd,Nat.reduceSub,Nat.reduceLeDiff,reduceCtorEq,a8,ag0,a0,a3,b21,bg0,bg1,b0,b3,b5,b8,I2,ai,vt,vo,hq]
 ·have Xc:k=4:=by omega
  subst Xc
  (try((repeat(revert hN;revert N;apply Pn.out));refine wk (tw @a8 (tw @ag0 (tw @a0 (tw @a3 @hk)))) ?_;(repeat(refine Pn.mk ?_;intro N hN))))
  exact fe (.inr rfl) (vs:=[]) rfl ⟨rfl,ak.frame (Nat.le_refl _) ha.ov (by(try dsimp only);omega) (fun x hx=>rfl)⟩
structure Jg (g:Rows) (n:Nat) (c T O:Id) (s:aM) (ts:List ae):Prop where
 o:oG g n c T O s ts
 op:∃es:List En,g O=some ⟨true,mP.mz,es.map pM⟩/\xV g n es (iM s ts) (fun _=>True)
theorem Jg.frame {g g':Rows} {n n':Nat} {c T O:Id} {s:aM} {ts:List ae} (h:Jg g n c T O s ts) (hn:n<=n') (hf:∀x:Id,x.br<n->g' x=g x):Jg g' n' c T O s ts:=
 ⟨h.o.frame hn hf,by
  obtain⟨es,h1,h2⟩:=h.op
  exact⟨es,(hf _ h.o.ov).trans h1,h2.frame hn fun x hx _=>hf x hx⟩⟩
theorem oG.Uk {σ:ay} {g:Rows} {n:Nat} {c T O:Id} {s:aM} {ts:List ae} {A:ar->Prop} (h:oG σ.get σ.next c T O s ts) (k:iG σ O s ts A g n):oG g n c T O s ts:=h.look k.ow
theorem JW {s:aM} (hT:1<=s.aA) {ts:List ae} {q:ar} (h:∀t∈ts,∀k:Nat,k<4->q≠bB t.bj k):iM s ts q=[]:=by
 unfold iM
 refine Gh (fun t=>?_) _
 cases hb:eF s ts q t
 ·rfl
 ·exfalso
  simp[eF]at hb
  obtain⟨⟨h1,h2⟩,h3⟩:=hb
  obtain⟨k,hk,h4⟩:=bind_some (s:=s.aC) (F:=gH ts) (p:=q) (t:=t) 4 (by have:qu s.aC (gH ts) q t=dF s.aC (gH ts) q t 4:=rfl;omega)
  have h5:0<=eO ts (bB q k):=by
   unfold gH at h4
   split at h4
   ·assumption
   ·omega
  obtain⟨h6,h7⟩:=kS h5
  have QE:(kT k).toNat<4/\((kT k).toNat:Int)=kT k:=by
   have:k=0∨k=1∨k=2∨k=3:=by omega
   rcases this with rfl|rfl|rfl|rfl<;>decide
  refine h _ (ko h6) (kT k).toNat QE.1 ?_
  rw[h7,QE.2,zx q k hk]
theorem C5 {l:List ae} {t:ae} (h:t∈l):∃j,j<l.length/\t=aY l j:=by
 obtain⟨j,hj,rfl⟩:=List.getElem_of_mem h
 exact⟨j,hj,(hZ hj).symm⟩
def DS (s:aM) (l:List ae) (j:Nat) (q:ar):Prop:=iM s l q=[]/\(∀i:Nat,i<l.length->∀k:Nat,k<4->q≠bB (aY l i).bj k)∨∃i:Nat,i<j/\∃k:Nat,k<4/\q=bB (aY l i).bj k
theorem LO {s:aM} (hT:1<=s.aA) (l:List ae) (q:ar):DS s l l.length q:=by
 by_cases h:∃i:Nat,i<l.length/\∃k:Nat,k<4/\q=bB (aY l i).bj k
 ·exact .inr h
 ·have h2:∀i:Nat,i<l.length->∀k:Nat,k<4->q≠bB (aY l i).bj k:=fun i hi k hk e=>h ⟨i,hi,k,hk,e⟩
  exact .inl ⟨JW hT fun t ht k hk=>by
   obtain⟨j,hj,rfl⟩:=C5 ht
   exact h2 j hj k hk,h2⟩
def VW (σ:ay) (s:aM) (ts:List ae) (r:AV) (σ':ay):Prop:=
 ∃c T O:Id,r=.ptr c 0 0/\Jg σ'.get σ'.next c T O s ts/\σ.next<=c.br/\σ.next<=T.br/\σ.next<=O.br/\σ.next<=σ'.next/\∀x:Id,x.br<σ.next->σ'.get x=σ.get x
theorem AG (s:aM) (hS:iu s.aC) (WI:1<=s.aA) (l:List ae) (hA:kz s.aC l) (σ:ay):Call Tryz.prog 83 [.agg (aE s),.agg [.sl (l.map ah)]] σ (VW σ s l):=by
 refine e6 eK rfl fun lf=>?_
 clear lf
 have Cf:=hA.1.zW
 (try((repeat(revert hN;revert N;apply Pn.out));refine wk @aE.eq_1 ?_;(repeat(refine Pn.mk ?_;intro N hN))))
 refine aX (fun n env st=>∃k:Nat,n=(l.length)-k/\k<=(l.length)/\env 18=.int .i64 (k:Int)/\st.get ⟨83001004,σ.next+1⟩=some ⟨true,6,[[.sl (s.aC.aB.map ck),.sl (s.aC.aj.map bP),.sl (s.cC.aj.map ah),.int .i64 s.aA,.map ⟨83001001,σ.next+1⟩ mP,.map ⟨83001002,σ.next+1⟩ mP]]⟩/\st.get ⟨83001001,σ.next+1⟩=some ⟨true,mP.mz,(l.take k).map ah⟩/\st.get ⟨83001002,σ.next+1⟩=some ⟨true,mP.mz,[]⟩/\st.get ⟨83000001,σ.next⟩=some ⟨true,1,[[.sl (l.map ah)]]⟩/\(σ.next+3<=st.next/\∀x:Id,x.br<σ.next->st.get x=σ.get x)) (l.length) ⟨0,by omega,by omega,sl @Nat.zero_add,sl @Nat.zero_add,sl @Nat.zero_add,sl @Nat.zero_add,sl @Nat.zero_add,⟨by(try dsimp only);omega,fun x hx=>by
  have:=dr hx
  simp only[go_sem, ↓reduceIte,Nat.reduceEqDiff,Nat.reduceAdd,Nat.reduceSub,Nat.reduceLeDiff,reduceCtorEq,this]⟩⟩ ?_
 rintro n_a env_a st_a ⟨k,rfl,ale,a18,ag0,ag1,ag2,ag3,kC⟩ dC
 have a3:=dC 3 (by kernel_rfl);have a5:=dC 5 (by kernel_rfl);have RZ:=dC 16 (by kernel_rfl);have a17:=dC 17 (by kernel_rfl)
 simp only[go_sem, ↓reduceIte,Nat.reduceEqDiff,Nat.reduceAdd,Nat.reduceSub,Nat.reduceLeDiff,reduceCtorEq]at a3 a5 RZ a17
 clear dC
 obtain⟨an,dC⟩:=kC
 have v1:=dr (i:=⟨83001004,σ.next+1⟩) (n:=st_a.next) (by(try dsimp only);omega)
 have v2:=dr (i:=⟨83001001,σ.next+1⟩) (n:=st_a.next) (by(try dsimp only);omega)
 have v3:=dr (i:=⟨83001002,σ.next+1⟩) (n:=st_a.next) (by(try dsimp only);omega)
 have v4:=dr (i:=⟨83000001,σ.next⟩) (n:=st_a.next) (by(try dsimp only);omega)
 by_cases hk:(k:Int)<(l.length:Int)
 ·have cD:∀{e:Env} {gg:Rows} {nx:Nat},(e 18=.int .i64 (IntKind.i64.wrap ((k:Int)+1)))->(gg ⟨83001004,σ.next+1⟩=some ⟨true,6,[[.sl (s.aC.aB.map ck),.sl (s.aC.aj.map bP),.sl (s.cC.aj.map ah),.int .i64 s.aA,.map ⟨83001001,σ.next+1⟩ mP,.map ⟨83001002,σ.next+1⟩ mP]]⟩)->(gg ⟨83001001,σ.next+1⟩=some ⟨true,mP.mz,(l.take (k+1)).map ah⟩)->(gg ⟨83001002,σ.next+1⟩=some ⟨true,mP.mz,[]⟩)->(gg ⟨83000001,σ.next⟩=some ⟨true,1,[[.sl (l.map ah)]]⟩)->(σ.next+3<=nx/\∀x:Id,x.br<σ.next->gg x=σ.get x)->∃m0,m0<(l.length)-k/\∃k:Nat,m0=(l.length)-k/\k<=(l.length)/\e 18=.int .i64 (k:Int)/\gg ⟨83001004,σ.next+1⟩=some ⟨true,6,[[.sl (s.aC.aB.map ck),.sl (s.aC.aj.map bP),.sl (s.cC.aj.map ah),.int .i64 s.aA,.map ⟨83001001,σ.next+1⟩ mP,.map ⟨83001002,σ.next+1⟩ mP]]⟩/\gg ⟨83001001,σ.next+1⟩=some ⟨true,mP.mz,(l.take k).map ah⟩/\gg ⟨83001002,σ.next+1⟩=some ⟨true,mP.mz,[]⟩/\gg ⟨83000001,σ.next⟩=some ⟨true,1,[[.sl (l.map ah)]]⟩/\(σ.next+3<=nx/\∀x:Id,x.br<σ.next->gg x=σ.get x):=fun x1 x2 x3 x4 x5 x6=>⟨_,by omega,k+1,rfl,by omega,(by rw[x1,az (by omega)]),x2,x3,x4,x5,x6⟩
  have fm:k<l.length:=by omega
  have hg:=fU fm
  have hm:=w8 (LD hA.1.Rm fm)
  have pN:=Ou fm
  (try((repeat(revert hN;revert N;apply Pn.out));refine wk (tw @a18 (tw @ag0 (tw @ag1 (tw @ag2 (tw @ag3 (tw @a3 (tw @a5 (tw @RZ (tw @a17 (tw @hk (tw @hg (tw @hm (tw @v1 (tw @v2 (tw @v3 (tw @v4 @ah.eq_1)))))))))))))))) ?_;(repeat(refine Pn.mk ?_;intro N hN))))
  refine cD ?_ ?_ ?_ ?_ ?_ (by(try dsimp only);exact⟨by omega,fun x hx=>by
   have h1:=dr (i:=x) (n:=st_a.next) (by omega)
   have h2:=da (a:=x) (b:=⟨83001001,σ.next+1⟩) (by(try dsimp only);omega)
   have h3:=dC x hx
   simp only[go_sem, ↓reduceIte,Nat.reduceEqDiff,Nat.reduceAdd,Nat.reduceSub,Nat.reduceLeDiff,reduceCtorEq,h1,h2,h3]⟩)
  all_goals simp only[go_sem, ↓reduceIte,Nat.reduceEqDiff,Nat.reduceAdd,Nat.reduceSub,Nat.reduceLeDiff,reduceCtorEq,a18,ag0,ag1,ag2,ag3,a3,a5,RZ,a17,ah,v1,v2,v3,v4,pN]
 ·have kM:k=l.length:=by omega
  subst kM
  have lR:l.take l.length=l:=List.take_length
  (try((repeat(revert hN;revert N;apply Pn.out));refine wk (tw @a18 (tw @ag0 (tw @ag1 (tw @ag2 (tw @ag3 (tw @a3 (tw @a5 (tw @RZ (tw @a17 (tw @hk (tw @v1 (tw @v2 (tw @v3 @v4))))))))))))) ?_;(repeat(refine Pn.mk ?_;intro N hN))))
  refine aX (fun n env st=>∃j:Nat,n=(l.length)-j/\j<=(l.length)/\env 34=.int .i64 (j:Int)/\(σ.next+3<=st.next/\oG st.get st.next ⟨83001004,σ.next+1⟩ ⟨83001001,σ.next+1⟩ ⟨83001002,σ.next+1⟩ s l/\(∀x:Id,x.br<σ.next->st.get x=σ.get x)/\∃es:List En,st.get ⟨83001002,σ.next+1⟩=some ⟨true,mP.mz,es.map pM⟩/\xV st.get st.next es (iM s l) (DS s l j))) (l.length) ⟨0,by omega,by omega,sl (tw @a18 (tw @ag0 (tw @ag1 (tw @ag2 (tw @ag3 (tw @a3 (tw @a5 (tw @RZ @a17)))))))),by(try dsimp only);exact⟨by omega,⟨sd @ag0,sd (tw @ag1 @lR),⟨[],sd @ag2,by intro r hr;cases hr⟩,by(try dsimp only);omega,by(try dsimp only);omega,by(try dsimp only);omega,(by intro e;injection e with e1 e2;revert e1;decide),(by intro e;injection e with e1 e2;revert e1;decide),(by intro e;injection e with e1 e2;revert e1;decide)⟩,fun x hx=>by
   have h3:=dC x hx
   simp only[go_sem, ↓reduceIte,Nat.reduceEqDiff,Nat.reduceAdd,Nat.reduceSub,Nat.reduceLeDiff,reduceCtorEq,h3],[],sl @ag2,List.nodup_nil,fun q hq=>.inl ⟨by
    rcases hq with hq|⟨i,hi,_⟩
    ·exact hq.1
    ·exact absurd hi (Nat.not_lt_zero i),fun e he=>by cases he⟩⟩⟩ ?_
  rintro n_b env_b st_b ⟨j,rfl,ble,b34,bI0⟩ eX
  have b5:=eX 5 (by kernel_rfl);have pI:=eX 32 (by kernel_rfl);have uD:=eX 33 (by kernel_rfl)
  simp only[go_sem, ↓reduceIte,Nat.reduceEqDiff,Nat.reduceAdd,Nat.reduceSub,Nat.reduceLeDiff,reduceCtorEq,a18,ag0,ag1,ag2,ag3,a3,a5,RZ,a17]at b5 pI uD
  clear eX
  obtain⟨bn,bC,eX,es,bO,bS⟩:=bI0
  by_cases hj:(j:Int)<(l.length:Int)
  ·have fh:∀{e:Env} {gg:Rows} {nx:Nat},(e 34=.int .i64 (IntKind.i64.wrap ((j:Int)+1)))->(σ.next+3<=nx/\oG gg nx ⟨83001004,σ.next+1⟩ ⟨83001001,σ.next+1⟩ ⟨83001002,σ.next+1⟩ s l/\(∀x:Id,x.br<σ.next->gg x=σ.get x)/\∃es:List En,gg ⟨83001002,σ.next+1⟩=some ⟨true,mP.mz,es.map pM⟩/\xV gg nx es (iM s l) (DS s l (j+1)))->∃m0,m0<(l.length)-j/\∃j:Nat,m0=(l.length)-j/\j<=(l.length)/\e 34=.int .i64 (j:Int)/\(σ.next+3<=nx/\oG gg nx ⟨83001004,σ.next+1⟩ ⟨83001001,σ.next+1⟩ ⟨83001002,σ.next+1⟩ s l/\(∀x:Id,x.br<σ.next->gg x=σ.get x)/\∃es:List En,gg ⟨83001002,σ.next+1⟩=some ⟨true,mP.mz,es.map pM⟩/\xV gg nx es (iM s l) (DS s l j)):=fun x1 x2=>⟨_,by omega,j+1,rfl,by omega,(by rw[x1,az (by omega)]),x2⟩
   have gW:j<l.length:=by omega
   have hg:=fU gW
   have O9:=tG (hA.1.pt gW)
   (try((repeat(revert hN;revert N;apply Pn.out));refine wk (tw @b34 (tw @b5 (tw @pI (tw @uD (tw @hj (tw @hg @ah.eq_1)))))) ?_;(repeat(refine Pn.mk ?_;intro N hN))))
   have hG:∀x:Id,x.br<st_b.next->(bL (bL st_b.get ⟨83009002,st_b.next+1⟩ ⟨true,3,[[.int .i64 0,.int .i64 0,.int .i64 0]]⟩) ⟨83009002,st_b.next+1⟩ ⟨true,3,[[.int .i64 (aY l j).bj.eM,.int .i64 (aY l j).bj.eG,.int .i64 (aY l j).bQ]]⟩) x=st_b.get x:=fun x hx=>by
    have h1:=dr hx
    simp only[go_sem, ↓reduceIte,Nat.reduceEqDiff,Nat.reduceAdd,Nat.reduceSub,Nat.reduceLeDiff,reduceCtorEq,h1]
   have U3:oG (bL (bL st_b.get ⟨83009002,st_b.next+1⟩ ⟨true,3,[[.int .i64 0,.int .i64 0,.int .i64 0]]⟩) ⟨83009002,st_b.next+1⟩ ⟨true,3,[[.int .i64 (aY l j).bj.eM,.int .i64 (aY l j).bj.eG,.int .i64 (aY l j).bQ]]⟩) (st_b.next+1+1+1) ⟨83001004,σ.next+1⟩ ⟨83001001,σ.next+1⟩ ⟨83001002,σ.next+1⟩ s l:=bC.frame (by omega) hG
   refine .inr (aJ _ _ _ _ _ (fun r σ1 hq=>?_) (Aw (σ:=⟨bL (bL st_b.get ⟨83009002,st_b.next+1⟩ ⟨true,3,[[.int .i64 0,.int .i64 0,.int .i64 0]]⟩) ⟨83009002,st_b.next+1⟩ ⟨true,3,[[.int .i64 (aY l j).bj.eM,.int .i64 (aY l j).bj.eG,.int .i64 (aY l j).bQ]]⟩,st_b.next+1+1+1⟩) U3.R4 U3.cO U3.TO (DS s l j) ⟨es,(hG _ (by(try dsimp only);omega)).trans bO,bS.frame (by(try dsimp only);omega) fun x hx _=>hG x hx⟩ hS (iu.ON hA) (aY l j).bj O9.1 O9.2))
   obtain⟨g1,x1⟩:=σ1
   obtain⟨rfl,hL⟩:=hq
   (try dsimp only at hL)
   have hC2:=U3.Uk hL
   have hLn:=hL.1
   have hLf:=hL.2.1
   obtain⟨es2,WE,MZ⟩:=hL.2.2
   (try dsimp only at hLn hLf)
   have hAj:∀q,DS s l (j+1) q->DS s l j q∨∃k:Nat,k<4/\q=bB (aY l j).bj k:=fun q hq=>by
    rcases hq with hq|⟨i,hi,hq⟩
    ·exact .inl (.inl hq)
    ·rcases Nat.lt_or_ge i j with h|h
     ·exact .inl (.inr ⟨i,h,hq⟩)
     ·exact .inr (by rw[show i=j by omega]at hq;exact hq)
   refine hN _ _ ?_
   clear hN N
   (try((repeat(revert hN;revert N;apply Pn.out));refine wk (tw @b34 (tw @b5 (tw @pI @uD))) ?_;(repeat(refine Pn.mk ?_;intro N hN))))
   exact fh (sd (tw @b34 (tw @b5 (tw @pI @uD)))) (by(try dsimp only);exact⟨by omega,hC2.frame (by omega) (fun x hx=>rfl),fun x hx=>by
    have h1:=dr (i:=x) (n:=st_b.next) (by omega)
    have h2:=hLf x (by omega) (fun e=>by rw[e]at hx;(try dsimp only at hx);omega)
    have h3:=eX x hx
    simp only[h2]
    simp only[go_sem, ↓reduceIte,Nat.reduceEqDiff,Nat.reduceAdd,Nat.reduceSub,Nat.reduceLeDiff,reduceCtorEq,h1,h3],es2,WE,(MZ.frame (by omega) fun x hx _=>rfl).mono hAj⟩)
  ·have gT:j=l.length:=by omega
   subst gT
   (try((repeat(revert hN;revert N;apply Pn.out));refine wk (tw @b34 (tw @b5 (tw @pI (tw @uD @hj)))) ?_;(repeat(refine Pn.mk ?_;intro N hN))))
   exact fe (.inl rfl) (vs:=[.ptr ⟨83001004,σ.next+1⟩ 0 0]) (sd @Nat.zero_add) ⟨_,_,_,rfl,⟨bC.frame (by(try dsimp only);omega) (fun x hx=>rfl),es,bO,(bS.frame (by(try dsimp only);omega) fun x hx _=>rfl).mono fun q _=>LO WI l q⟩,by(try dsimp only);omega,by(try dsimp only);omega,by(try dsimp only);omega,by(try dsimp only);omega,eX⟩
end Go.Proofs.YtgoljkjaameagaaGreat.V

namespace Go.Proofs.YtgoljkjaameagaaGreat.V
open Go.RowKit
variable {P:Program} {w w':World} {D D':Nat->Prop} {ι ι':Names} {hs:Nat} {g:Rows}
def VU (w:World) (rr:Nat):Prop:=∃m s seen c,w.heap[rr]? =some (.mapIter m s seen c)
structure Lft (P:Program) (w:World) (D:Nat->Prop) (ι:Names) (m:MK) (L:List MapEntry) (left:List (List AV)):Prop where
 len:left.length=L.length
 at_:∀(i:Nat) (cs:List AV),left[i]? =some cs->∃(e:MapEntry) (kv vv:AV),L[i]? =some e/\part m.ka m.ks cs=some kv/\cs[m.ks]? =some vv/\dm P w D ι kv e.key/\dm P w D ι vv e.val
theorem z8 {α β:Type} {l:List α} {k:List β} {i j:Nat} {x:α} (hl:l.length=k.length) (h:(l.eraseIdx i)[j]? =some x):∃q:Nat,l[q]? =some x/\(k.eraseIdx i)[j]? =k[q]? :=by
 rw[List.getElem?_eraseIdx]at h
 split at h
 ·rename_i hj;exact⟨j,h,by rw[List.getElem?_eraseIdx,if_pos hj]⟩
 ·rename_i hj;exact⟨j+1,h,by rw[List.getElem?_eraseIdx,if_neg hj]⟩
theorem nY:∀{l:List MapEntry} {i:Nat} {e:MapEntry},(l.map (·.born)).Nodup->l[i]? =some e->l.filter (fun x=>x.born !=e.born)=l.eraseIdx i
 |x::l,0,e,hn,h=>by
  simp at h;subst h
  obtain⟨h1,h2⟩:=List.nodup_cons.1 (show(x.born::l.map (·.born)).Nodup from hn)
  rw[List.filter_cons,if_neg (by simp),List.eraseIdx_cons_zero]
  refine List.filter_eq_self.2 fun y hy=>?_
  have:y.born≠x.born:=fun hc=>h1 (by rw[<-hc];exact List.mem_map_of_mem hy)
  simpa using this
 |x::l,i+1,e,hn,h=>by
  obtain⟨h1,h2⟩:=List.nodup_cons.1 (show(x.born::l.map (·.born)).Nodup from hn)
  simp only[List.getElem?_cons_succ]at h
  have hx:x.born≠e.born:=fun hc=>h1 (by rw[hc];exact List.mem_map_of_mem (List.mem_of_getElem? h))
  rw[List.filter_cons,if_pos (by simpa using hx),List.eraseIdx_cons_succ,nY h2 h]
theorem E9 {es:Array MapEntry} {clock:Nat} {seen:Array Nat} {i:Nat} {e:MapEntry} (hs:G6 es clock) (h:(leftOf es seen).toList[i]? =some e):(leftOf es (seen.push e.born)).toList=(leftOf es seen).toList.eraseIdx i:=by
 have hn:((leftOf es seen).toList.map (·.born)).Nodup:=by
  unfold leftOf
  rw[Array.toList_filter]
  exact((List.filter_sublist (p:=fun e=> !seen.contains e.born) (l:=es.toList)).map MapEntry.born).nodup hs.2
 rw[<-nY hn h]
 unfold leftOf
 rw[Array.toList_filter,Array.toList_filter,List.filter_filter]
 refine List.filter_congr fun x _=>?_
 rw[contains_push]
 cases seen.contains x.born<;>cases hb:(x.born==e.born)<;>simp_all
def CS (P:Program) (nt:Nat) (c:Code) (W:(Ex->Env->ay->Prop)->Env->ay->Prop):Prop:=
 ∀(hs:Nat) (Q:Ex->Env->ay->Prop) (env:Env) (σ:ay) (a:Act) (w:World) (D:Nat->Prop) (ι:Names) (Q':Exit->Act->World->Prop),W Q env σ->St P hs nt D ι env σ a w->vM P hs nt a.defers Q σ.next D ι w Q'->DP P c Q' a w
theorem xf {α:Type}:∀{l:List α} {i:Nat} {x:α},l[i]? =some x->(x::l.eraseIdx i).Perm l
 |y::l,0,x,h=>by simp at h;subst h;exact List.Perm.refl _
 |y::l,i+1,x,h=>by
  simp only[List.getElem?_cons_succ]at h
  rw[List.eraseIdx_cons_succ]
  exact(List.Perm.swap _ _ _).trans ((xf h).cons _)
end Go.Proofs.YtgoljkjaameagaaGreat.V

namespace Go.Proofs.YtgoljkjaameagaaGreat.V
open Go.RowKit
variable {P:Program} {hs:Nat}
theorem IZ {q n i:Nat} {ops:Array Oper} {Q:Exit->Act->World->Prop} {K K':Act->World->Prop} {a:Act} {w:World} (lg:∀(j:Nat) (o:Oper),ops[j]? =some o->∀c,o.op≠.defer c) (kH:¬LetsOut Q) (hK:∀a w,K a w->K' a w) (h:wpOp P ops Q i K a w):wpOpIn (Fence.wide.inRound q) n P ops Q i K' a w:=by
 unfold wpOp at h
 unfold wpOpIn
 split at h
 ·rename_i ho;simp only[ho];exact hK _ _ h
 ·rename_i o ho
  simp only[ho]
  split at h
  ·rename_i hw
   rw[if_pos hw]
   replace h:=h.resolve_right fun hc=>kH hc.2
   refine⟨fun _ _=>trivial,?_⟩
   rw[Oper.semAt_eq _ _ _ (lg i o ho)]
   unfold Oper.wp at h
   generalize (execOp a.eval o).run P w=r at *
   cases r with
   |ok m w'=>
    cases m<;>simp only[Oper.upon,Oper.uponIn]at h ⊢
    case value=>exact hK _ _ h
    case skip=>exact hK _ _ h
    case defer=>exact hK _ _ h
    case enter f args=>
     refine⟨fun h=>by simp[Fence.wide]at h,CallsIn.inRound q (callsIn_wide.2 (h.mono fun e Ml he=>?_))⟩
     cases e with
     |returned v=>exact hK _ _ he
     |panicked c=>exact he
     |outgrown=>exact he
    case row r args=>exact⟨fun h=>by simp[Fence.wide]at h,fun c cs _=>let ⟨v,Ml,h1,s⟩:=h c cs;⟨v,Ml,hK _ _ h1,stepsIn_wide.2 s⟩⟩
   |halt x w'=>cases x<;>simp only[Oper.upon,Oper.uponIn]at h ⊢;exact h
  ·rename_i hw
   rw[if_neg hw]
   exact⟨fun _ _=>trivial,hK _ _ h⟩
theorem xQ {q n:Nat} {md:Region.Mode} {ops:Array Oper} {Q:Exit->Act->World->Prop} (lg:∀(j:Nat) (o:Oper),ops[j]? =some o->∀c,o.op≠.defer c) (kH:¬LetsOut Q):∀(fuel:Nat) (listed:Array Bool) (a:Act) (w:World),wpAny P md ops Q fuel listed a w->wpAnyIn (Fence.wide.inRound q) n P md ops Q fuel listed a w
 |0,_,_,_,h=>h
 |fuel+1,listed,_,_,h=>⟨h.1,fun i hi=>IZ lg kH (fun a w=>xQ lg kH fuel _ a w) (h.2 i hi)⟩
def GD:Op->Bool
 | .defer _=>true
 |_=>false
theorem KV {ops:Array Oper} (h:(ops.all fun o=> !GD o.op)=true):∀(j:Nat) (o:Oper),ops[j]? =some o->∀c,o.op≠.defer c:=fun j o hj c hc=>by
 have:=Array.all_eq_true_iff_forall_mem.1 h o (Array.mem_of_getElem? hj)
 rw[hc]at this
 simp[GD]at this
theorem AM (hm:P.follows .mixedOrders=true) {nt site0 id q n:Nat} {ops:Array Oper} {vl:List bR} (h:r7 P nt site0 ops true false=some vl) (lg:∀(j:Nat) (o:Oper),ops[j]? =some o->∀c,o.op≠.defer c)
  {K:Env->ay->Prop} {env:Env} {σ:ay} {a:Act} {w:World} {D:Nat->Prop} {ι:Names} {Q:Exit->Act->World->Prop} (hv:wpOps (Sound P) true vl K env σ) (eu:St P hs nt D ι env σ a w)
  (hK:∀iL σ' a' w' D' ι',K iL σ'->Step hs D ι w D' ι' w'->St P hs nt D' ι' iL σ' a' w'->a'.defers=a.defers->Q .normal a' w'):(Code.region id ops true).wpIn (Fence.wide.inRound q) n P Q a w:=by
 have eh:∃hidden tP,allM (mK P ops nt site0 true false (jH ops) hidden) ops.toList 0=some tP/\vl=tP/\oV ops tP (jH ops)=true:=by
  unfold r7 at h
  simp only[if_true,Bool.not_true,Bool.false_or]at h
  split at h
  ·rename_i tP h'
   split at h
   ·rename_i wI;simp at h;exact⟨_,tP,h',h.symm,wI⟩
   ·cases h
  ·cases h
 obtain⟨hidden,tP,eh,rfl,wI⟩:=eh
 obtain⟨sr,T0⟩:=eu.drew
 obtain⟨hlen,_⟩:=oM eh
 have jP:vl.length=ops.size:=by rw[hlen];simp
 have Ez:=xO (X:=Sound P) (K:=K) (n:=σ.next) wI jP vl 0 (Array.replicate ops.size false) env σ.get (by simp) (by simp) (fun i hi=>by simp[hi]) (by simp[jP]) (fun k i h=>by
  exfalso
  rcases Nat.lt_or_ge k ops.size with hk|hk
  ·simp[hk]at h
  ·simp[Nat.not_lt.2 hk]at h) hv
 rw[jP]at Ez
 have hw:=yF (Q:=fun e a w=>e=.normal/\Q .normal a w) eh ops.size _ env σ.get a w.drew D ι (fun _=>False) Ez sr.Mi sr.used (fun _ h=>h.elim) sr.env sr.size fun kP g1 a1 w1 D1 ι1 U1 hk T S1 VY E1 y5 hd=>⟨rfl,hK kP ⟨g1,σ.next+1⟩ a1 w1 D1 ι1 hk (T0.trans T) ⟨S1,VY.next,E1,y5⟩ hd⟩
 have fI:=xQ (q:=q) (n:=n) (Q:=fun e a w=>e=.normal/\Q .normal a w) lg (by rintro⟨_,_,hc,_⟩;cases hc) ops.size _ a w.drew hw
 refine wpIn_mono (wpIn_region_any (id:=id) hm fI) ?_
 rintro e a w ⟨rfl,h⟩
 exact h
end Go.Proofs.YtgoljkjaameagaaGreat.V

namespace Go.Proofs.YtgoljkjaameagaaGreat.V
open Go.RowKit Go.Shelf
attribute [local go_sem] Oper.semAt_some
structure qc (W:World) (v:Value) (l:List ae):Prop where
 sl:∃A c,v=.slice A l.length c/\(l.length<=c/\c<=maxLen)/\(l=[]∨∃b o,A=some ⟨b,o,none⟩/\∀i,i<l.length->W.cell? ⟨b,o+(i*3+0),none⟩=some (.int .i64 (aY l i).bj.eM)/\W.cell? ⟨b,o+(i*3+1),none⟩=some (.int .i64 (aY l i).bj.eG)/\W.cell? ⟨b,o+(i*3+2),none⟩=some (.int .i64 (aY l i).bQ))
structure Ji (K:World->World->Prop) (v:Value) (l:List ae):Prop where
 refl:∀W,K W W
 trans:∀{A B C:World},K A B->K B C->K A C
 of:∀{W W':World},Below W.heap.size W W'->K W W'
 size:∀{W W':World},K W W'->W.heap.size<=W'.heap.size
 typed:∀{W W':World},K W W'->∀(b:Nat) (cells:Array Value) (T:TypeId) (fr:Nat×Nat),W.heap[b]? =some (Obj.cells cells T fr)->T≠179->T≠254->W'.heap[b]? =W.heap[b]?
 pl:∀{W W':World},K W W'->qc W v l->qc W' v l
theorem uT {W:World} {b x:Nat} {v:Value} (h:W.cell? ⟨b,x,none⟩=some v):b<W.heap.size:=by
 rcases Nat.lt_or_ge b W.heap.size with h1|h1
 ·exact h1
 ·simp[World.cell?,Array.getElem?_eq_none h1]at h
theorem qc.below {W W':World} {v:Value} {l:List ae} (h:qc W v l) (k:Below W.heap.size W W'):qc W' v l:=by
 obtain⟨A,c,rfl,hm,hc⟩:=h.sl
 refine⟨A,c,rfl,hm,?_⟩
 rcases hc with h0|⟨b,o,rfl,ju⟩
 ·exact .inl h0
 ·refine .inr ⟨b,o,rfl,fun i hi=>?_⟩
  obtain⟨h1,h2,h3⟩:=ju i hi
  have hb:=uT h1
  exact⟨(k.cell (p:=⟨b,_,none⟩) hb).trans h1,(k.cell (p:=⟨b,_,none⟩) hb).trans h2,(k.cell (p:=⟨b,_,none⟩) hb).trans h3⟩
theorem qc.fa {P:Program} {W:World} {v:Value} {l:List ae} (h:qc W v l):ke P W (fun b=>b<W.heap.size) (.sl (l.map ah)) v:=by
 obtain⟨A,c,rfl,hm,hc⟩:=h.sl
 rcases hc with rfl|⟨b,o,rfl,ju⟩
 ·exact .DI A c (by simpa using hm.2)
 by_cases O7:l=[]
 ·subst O7;exact .DI _ c (by simpa using hm.2)
 ·have jx:0<l.length:=List.length_pos_iff.2 O7
  have hb:=uT (ju 0 jx).1
  refine .sl (l.map ah) b o l.length c 3 (fun i j=>if j=0 then .int .i64 (aY l i).bj.eM else if j=1 then .int .i64 (aY l i).bj.eG else .int .i64 (aY l i).bQ) (by simp) hm.1 hm.2 hb (fun cs dz=>?_) (fun cs dz a ha=>?_) (fun i j hi hj=>?_) (fun i j cs a hi hj=>?_)
  ·obtain⟨x,_,rfl⟩:=List.mem_map.1 dz;rfl
  ·obtain⟨x,_,rfl⟩:=List.mem_map.1 dz
   simp[ah]at ha
   rcases ha with rfl|rfl|rfl<;>rfl
  ·obtain⟨h1,h2,h3⟩:=ju i hi
   match j,hj with
   |0,_=>exact h1
   |1,_=>exact h2
   |2,_=>exact h3
   |j+3,hj=>omega
  ·have mj:i<l.length:=by have:=(List.getElem?_eq_some_iff.1 hi).1;simpa using this
   rw[fU mj]at hi
   injection hi with hi
   subst hi
   match j,hj with
   |0,hj=>simp[ah]at hj;subst hj;exact .int _ _
   |1,hj=>simp[ah]at hj;subst hj;exact .int _ _
   |2,hj=>simp[ah]at hj;subst hj;exact .int _ _
   |j+3,hj=>simp[ah]at hj
theorem BL {P:Program} (hm:P.follows .mixedOrders=true) {f:Nat} {args:List AV} {vs:Array Value} {w:World} {r:AV} (h:aw P f args r) (hr:∀g r0,gq g 6 r0=some r->r0=r) (hA:fb P w (fun b=>b<w.heap.size) (fun _=>none) args vs):
  Calls P f vs w fun e w'=>∃D ι u,e=.returned u/\dm P w' D ι r u/\Below w.heap.size w w':=by
 have hs:=iw hm (h 0) w.heap.size (fun b=>b<w.heap.size) (fun _=>none) w vs ⟨Nat.le_refl _,fun _ h=>h,fun id r h=>(by cases h),fun id lk r r' B B' h=>(by cases h)⟩ (fun id h=>absurd rfl h) hA
 refine hs.mono ?_
 rintro e w' ⟨r0,g',n',D',ι',u,rfl,⟨r',hz,rfl⟩,eu,hsim,_,_,gS⟩
 have:=hr _ _ hz
 subst this
 exact⟨D',ι',u,rfl,gS,eu.below⟩
theorem o9 {g:Rows} {n:Nat} {a:AV} {k:IntKind} {m:Int} (h:gq g (n+1) a=some (.int k m)):a=.int k m:=by
 cases a<;>rw[gq]at h<;>simp_all
 all_goals (repeat' (split at h))<;>simp_all
theorem Eu {g:Rows} {a:AV} {x y:Int} (h:gq g 6 a=some (.agg [.int .i64 x,.int .i64 y])):a=.agg [.int .i64 x,.int .i64 y]:=by
 cases a with
 |agg cs=>
  rw[Gi]at h
  simp only[Option.map_eq_some_iff,AV.agg.injEq,exists_eq_right]at h
  match cs,h with
  |[],h=>rw[cY]at h;simp at h
  |[a],h=>
   rw[bV,cY]at h
   cases ha:gq g 5 a<;>simp[ha]at h
  |[a,b],h=>
   rw[bV,bV,cY]at h
   cases ha:gq g 5 a<;>cases hb:gq g 5 b<;>simp[ha,hb]at h
   obtain⟨rfl,rfl⟩:=h
   rw[o9 ha,o9 hb]
  |a::b::c::r,h=>
   rw[bV,bV,bV]at h
   cases ha:gq g 5 a<;>cases hb:gq g 5 b<;>cases hc:gq g 5 c<;>cases hd:er g 5 r<;>simp[ha,hb,hc,hd]at h
 |_=>rw[gq]at h<;>simp_all<;>(repeat' (split at h))<;>simp_all
theorem FA (W:World) (p:ar) (d:Int) (hd:iP d 0 3=true) (hx:iB p.eM) (hy:iB p.eG):Calls Tryz.prog 228 #[.agg #[.int .i64 p.eM,.int .i64 p.eG],.int .i64 d] W fun e W'=>e=.returned (.agg #[.int .i64 (bB p d).eM,.int .i64 (bB p d).eG])/\Below W.heap.size W W':=by
 refine(BL mixed (FC p d hd hx hy) (fun g r0 h=>Eu h) ?_:Calls _ _ _ _ _).mono ?_
 ·exact mV (vs:= #[.int .i64 d]) (.agg _ _ (fun j=>if j=0 then .int .i64 p.eM else .int .i64 p.eG) rfl (fun a ha=>by simp[ai]at ha;rcases ha with rfl|rfl<;>rfl) (fun j hj=>by match j,hj with|0,_=>rfl|1,_=>rfl|j+2,hj=>simp[ai]at hj;omega) (fun j a ha=>by match j,ha with|0,ha=>simp[ai]at ha;subst ha;exact .int _ _|1,ha=>simp[ai]at ha;subst ha;exact .int _ _|j+2,ha=>simp[ai]at ha)) (mV (vs:= #[]) (.int _ _) xl)
 ·rintro e W' ⟨D,ι,u,rfl,hr,hB⟩
  refine⟨?_,hB⟩
  obtain⟨vs,f,rfl,fo,_,h1,h2⟩:=iE hr
  have v0:=h1 0 (by simp[ai])
  have v1:=h1 1 (by simp[ai])
  rw[dB (h2 0 _ rfl)]at v0
  rw[dB (h2 1 _ rfl)]at v1
  obtain⟨vl⟩:=vs
  match vl,fo with
  |[a,b],_=>
   simp at v0 v1
   rw[v0,v1]
theorem yv (W:World) (l:List ae) (v:Value) (hP:qc W v l) (p:ar) (hR:qJ l) (Qd:l.length<=1048576):Calls Tryz.prog 303 #[.agg #[v],.agg #[.int .i64 p.eM,.int .i64 p.eG]] W fun e W'=>e=.returned (.int .i64 (eO l p))/\Below W.heap.size W W':=by
 refine(BL mixed (It l p hR Qd) (fun g r0 h=>o9 h) ?_:Calls _ _ _ _ _).mono ?_
 ·exact mV (vs:= #[.agg #[.int .i64 p.eM,.int .i64 p.eG]]) (.agg _ _ (fun _=>v) rfl (fun a ha=>by simp at ha;rw[ha];rfl) (fun j hj=>by match j,hj with|0,_=>rfl|j+1,hj=>simp at hj) (fun j a ha=>by match j,ha with|0,ha=>simp at ha;subst ha;exact hP.fa|j+1,ha=>simp at ha)) (mV (vs:= #[]) (.agg _ _ (fun j=>if j=0 then .int .i64 p.eM else .int .i64 p.eG) rfl (fun a ha=>by simp[ai]at ha;rcases ha with rfl|rfl<;>rfl) (fun j hj=>by match j,hj with|0,_=>rfl|1,_=>rfl|j+2,hj=>simp[ai]at hj;omega) (fun j a ha=>by match j,ha with|0,ha=>simp[ai]at ha;subst ha;exact .int _ _|1,ha=>simp[ai]at ha;subst ha;exact .int _ _|j+2,ha=>simp[ai]at ha)) xl)
 ·rintro e W' ⟨D,ι,u,rfl,hr,hB⟩
  exact⟨by rw[dB hr],hB⟩
theorem grown_of {W W':World} (h:Below W.heap.size W W'):W.grownBy W' none:=⟨h.os,h.tape,h.output,h.size,fun k hk _=>h.block k hk⟩
def CY (l:List ae) (i:Nat) (d:Int):List (Nat×Nat×Int):=if 0<=eO l (bB (aY l i).bj d)then[(i,(eO l (bB (aY l i).bj d)).toNat,d)]else[]
def lr (l:List ae) (i m:Nat):List (Nat×Nat×Int):=(List.range m).flatMap fun j:Nat=>CY l i (1-(j:Int))
def lT (l:List ae) (n:Nat):List (Nat×Nat×Int):=(List.range n).flatMap fun i=>lr l i 2
theorem mU (l:List ae) (n:Nat):lT l (n+1)=lT l n++lr l n 2:=by simp[lT,List.range_succ]
theorem nE (l:List ae) (i m:Nat):lr l i (m+1)=lr l i m++CY l i (1-(m:Int)):=by simp[lr,List.range_succ]
theorem Re (l:List ae) {k m:Nat} (hk:k<l.length) (hm:m<=2):lT l k++lr l k m <+:lT l l.length:=by
 have h1:∀d,lT l k <+:lT l (k+d):=fun d=>by
  induction d with
  |zero=>exact List.prefix_refl _
  |succ d ih=>rw[<-Nat.add_assoc,mU l (k+d)];exact ih.trans (List.prefix_append _ _)
 have h2:∀d,lT l (k+1) <+:lT l (k+1+d):=fun d=>by
  induction d with
  |zero=>exact List.prefix_refl _
  |succ d ih=>rw[<-Nat.add_assoc,mU l (k+1+d)];exact ih.trans (List.prefix_append _ _)
 have h3:=h2 (l.length-(k+1))
 rw[show k+1+(l.length-(k+1))=l.length by omega,mU]at h3
 refine List.IsPrefix.trans ?_ h3
 have h4:lr l k m <+:lr l k 2:=by
  have:m=0∨m=1∨m=2:=by omega
  rcases this with rfl|rfl|rfl
  ·exact List.nil_prefix
  ·rw[nE l k 1];exact List.prefix_append _ _
  ·exact List.prefix_refl _
 exact(List.prefix_append_right_inj _).2 h4
def SD (l:List ae) (x:Nat×Nat×Int):Prop:=x.1<l.length/\x.2.1<l.length/\(0<=x.2.2/\x.2.2<=1)
def Ga (x:Nat×Nat×Int):Array Value:= #[.agg #[.int .i64 (x.1:Int),.int .i64 (x.2.1:Int)],.int .i64 x.2.2]
theorem Nx (l:List ae) (p:ar) (h:0<l.length:=by omega):eO l p<(l.length:Int):=by
 unfold eO
 split<;>omega
theorem Uq (l:List ae) (hA:kJ l) (q Ba:Nat) (vS:Value) (K:World->World->Prop) (kl:Ji K vS l) (J Jx:List (Nat×Nat×Int)->World->Prop) (n:Nat) (hn:1<=n)
  (hY:∀pre x W,J pre W->pre.length<(lT l l.length).length->SD l x->YieldAt Fence.wide (n-1) Tryz.prog q (Ga x) W fun e W'=>
   (e=.returned (.bool true)/\J (pre++[x]) W'/\K W W')∨(e=.returned (.bool false)/\Jx (pre++[x]) W'))
  (W:World) (hJ:AbidesFrom W.heap.size J) (Qg:W.heap[Ba]? =some (.cells #[vS] 42 (0,0))) (hP:qc W vS l) (h0:J [] W):
  CallsIn Fence.wide n Tryz.prog 302 #[.func (.yield q) #[] #[],.pointer (some ⟨Ba,0,none⟩)] W fun e W'=>(∃v,e=.returned v)/\
   ((∃ys,ys=lT l l.length/\J ys W')∨(∃pre,pre <+:lT l l.length/\Jx pre W')):=by
 obtain⟨A,cp,rfl,_,_⟩:=hP.sl
 refine callsIn_of_wp Tryz.func302 rfl trivial ?_ rfl
 simp only[Tryz.ntmps302,List.size_toArray,List.length_cons,List.length_nil,Nat.reduceAdd,Nat.reduceSub,Array.replicate_succ,Array.replicate_zero,List.push_toArray,List.append_toArray,List.nil_append,List.cons_append]
 have jO:W.cell? ⟨Ba,0,none⟩=some (.slice A l.length cp):=by simp[World.cell?,Qg]
 gi_wp2
 gi_loopw [11] (fun i wr=>∃k:Nat,k<=l.length/\i=.int .i64 k/\J (lT l k) wr/\K W wr)
  (fun i _=>l.length-(intOf i).toNat)
 case atStart=>exact⟨0,Nat.zero_le _,rfl,h0,kl.refl _⟩
 case round=>
  obtain⟨k,hk,rfl,Te,hKt⟩:=hrel
  by_cases eo:k<l.length
  ·have dz:∃b o,A=some ⟨b,o,none⟩/\wr.cell? ⟨b,o+k*3,none⟩=some (.int .i64 (aY l k).bj.eM)/\wr.cell? ⟨b,o+k*3+1,none⟩=some (.int .i64 (aY l k).bj.eG)/\wr.cell? ⟨b,o+k*3+2,none⟩=some (.int .i64 (aY l k).bQ):=by
    obtain⟨A',c',hv,_,hc⟩:=(kl.pl hKt hP).sl
    cases hv
    rcases hc with rfl|⟨b,o,rfl,ju⟩
    ·simp at eo
    ·obtain⟨h1,h2,h3⟩:=ju k eo
     exact⟨b,o,rfl,by simpa using h1,by rw[Nat.add_assoc];exact h2,by rw[Nat.add_assoc];exact h3⟩
   obtain⟨b,o,rfl,hx,VG,ht⟩:=dz
   gi_wp2
   obtain⟨W2,Tl⟩:∃W2,(wr.alloc (.cells #[.int .i64 (aY l k).bj.eM,.int .i64 (aY l k).bj.eG,.int .i64 (aY l k).bQ] 171)).alloc (.cells #[.int .i64 1,.int .i64 0] 2)=W2:=⟨_,rfl⟩
   have qh:Below wr.heap.size wr W2:=by rw[<-Tl];exact((Below.refl _ wr).alloc (Nat.le_refl _) _).alloc (by simp) _
   have Wz:W2.heap[wr.heap.size]? =some (.cells #[.int .i64 (aY l k).bj.eM,.int .i64 (aY l k).bj.eG,.int .i64 (aY l k).bQ] 171 (0,0)):=by
    rw[<-Tl,Below.heap_alloc _ _ _ (by simp)];exact World.alloc_heap_new _ _
   have Wy:W2.heap[wr.heap.size+1]? =some (.cells #[.int .i64 1,.int .i64 0] 2 (0,0)):=by
    have:=World.alloc_heap_new (wr.alloc (.cells #[.int .i64 (aY l k).bj.eM,.int .i64 (aY l k).bj.eG,.int .i64 (aY l k).bQ] 171)) (.cells #[.int .i64 1,.int .i64 0] 2)
    rw[World.size_alloc]at this
    rw[<-Tl];exact this
   have Tf:K W W2:=kl.trans hKt (kl.of qh)
   have WC:J (lT l k++lr l k 0) W2:=by
    have:=hJ _ _ _ none Te (grown_of qh) (fun r h=>by cases h)
    simpa[lr]using this
   rw[Tl]
   clear Tl
   generalize wr=w1 at *
   gi_loopw [18] (fun j wr=>∃m:Nat,m<=2/\j=.int .i64 m/\J (lT l k++lr l k m) wr/\K W2 wr)
    (fun j _=>2-(intOf j).toNat)
   case atStart=>exact⟨0,by omega,rfl,WC,kl.refl _⟩
   case round=>
    obtain⟨m,hm,rfl,hJm,OV⟩:=hrel
    have Xh:m=0∨m=1∨m=2:=by omega
    by_cases Gr:m<2
    ·have hkd:=kl.typed OV _ _ _ _ Wy (by decide) (by decide)
     have M7:=kl.typed OV _ _ _ _ Wz (by decide) (by decide)
     have hka:=kl.typed (kl.trans Tf OV) _ _ _ _ Qg (by decide) (by decide)
     have cd:wr.cell? ⟨w1.heap.size+1,m,none⟩=some (.int .i64 (1-(m:Int))):=by
      rw[World.cell?_of_block hkd]
      rcases Xh with rfl|rfl|rfl
      ·simp[World.cell?,Wy]
      ·simp[World.cell?,Wy]
      ·omega
     have ct0:wr.cell? ⟨w1.heap.size,0,none⟩=some (.int .i64 (aY l k).bj.eM):=by rw[World.cell?_of_block M7];simp[World.cell?,Wz]
     have ct1:wr.cell? ⟨w1.heap.size,1,none⟩=some (.int .i64 (aY l k).bj.eG):=by rw[World.cell?_of_block M7];simp[World.cell?,Wz]
     have ca:wr.cell? ⟨Ba,0,none⟩=some (.slice (some ⟨b,o,none⟩) l.length cp):=by rw[World.cell?_of_block hka];simp[World.cell?,Qg]
     have hPw:qc wr (.slice (some ⟨b,o,none⟩) l.length cp) l:=kl.pl (kl.trans Tf OV) hP
     have hba:Ba<wr.heap.size:=by
      have h1:=(Array.getElem?_eq_some_iff.1 Qg).1
      have h2:=kl.size (kl.trans Tf OV)
      omega
     have hdm:iP (1-(m:Int)) 0 3=true:=jy (by omega)
     have O9:=tG (hA.pt eo)
     have Sr:=fun w0=>FA w0 (aY l k).bj (1-(m:Int)) hdm O9.1 O9.2
     have hPd:qc wr.drew (.slice (some ⟨b,o,none⟩) l.length cp) l:=hPw.below ⟨rfl,rfl,rfl,Nat.le_refl _,fun _ _=>rfl⟩
     have cad:wr.drew.cell? ⟨Ba,0,none⟩=some (.slice (some ⟨b,o,none⟩) l.length cp):=ca
     have ctd0:wr.drew.cell? ⟨w1.heap.size,0,none⟩=some (.int .i64 (aY l k).bj.eM):=ct0
     have ctd1:wr.drew.cell? ⟨w1.heap.size,1,none⟩=some (.int .i64 (aY l k).bj.eG):=ct1
     have hfw:=hA.zW
     have TJ:=hA.Rm
     have Xi:=mixed
     gi_wp2
     gi_region_with_o (first|(refine⟨trivial,?_⟩;gi_at_call 228;refine(callsIn_wide.2 (Sr _)).mono ?_;rintro e w3 ⟨rfl,Cc⟩;have ca3:=(Cc.cell (p:=⟨Ba,0,none⟩) hba).trans cad)|(refine⟨trivial,?_⟩;gi_at_call 303;refine(callsIn_wide.2 (yv _ l _ (hPd.below Cc) (bB (aY l k).bj (1-(m:Int))) TJ (by omega))).mono ?_;rintro e w4 ⟨rfl,hB4⟩))
     all_goals
      have Qf:Below wr.heap.size wr w4:=(show Below wr.heap.size wr wr.drew from⟨rfl,rfl,rfl,Nat.le_refl _,fun _ _=>rfl⟩).trans (Cc.trans (hB4.mono Cc.size))
      have hJ4:J (lT l k++lr l k m) w4:=hJ _ _ _ none hJm (grown_of Qf) (fun r h=>by cases h)
      have yj:=Re l eo (m:=m+1) (by omega)
      rw[nE,<-List.append_assoc]at yj
      have pN:=nE l k m
      have hw:wrap64 ((m:Int)+1)=((m+1:Nat):Int):=by unfold wrap64;omega
      by_cases Aj:0<=eO l (bB (aY l k).bj (1-(m:Int)))
      ·have fI:((eO l (bB (aY l k).bj (1-(m:Int)))).toNat:Int)=eO l (bB (aY l k).bj (1-(m:Int))):=by omega
       rw[CY,if_pos Aj]at yj pN
       obtain⟨fn,tmps,assign,body,hy,hR⟩:=hY _ (k,(eO l (bB (aY l k).bj (1-(m:Int)))).toNat,1-(m:Int)) w4 hJ4 (by
        have:=yj.length_le
        simp only[List.length_append,List.length_cons,List.length_nil]at this ⊢
        omega) ⟨eo,by
        have:eO l (bB (aY l k).bj (1-(m:Int)))<(l.length:Int):=Nx _ _
        show(eO l (bB (aY l k).bj (1-(m:Int)))).toNat<l.length
        omega,by show 0<=1-(m:Int);omega,by show 1-(m:Int)<=1;omega⟩
       simp only[Ga,fI]at hy
       gi_wp2
       refine hR.mono ?_
       rintro e W3 (⟨rfl,hJ3,QE⟩|⟨rfl,hJx3⟩)
       ·gi_wp2
        go_roundw
        case rel=>exact⟨m+1,by omega,by simp,by rw[pN,<-List.append_assoc];exact hJ3,kl.trans (kl.trans OV (kl.of Qf)) QE⟩
        case measure=>simp[intOf];omega
       ·gi_wp2
        refine bodyPost_ret (results_none rfl _ _ _) rfl ?_
        exact⟨⟨_,rfl⟩,.inr ⟨_,yj,hJx3⟩⟩
      ·rw[CY,if_neg Aj,List.append_nil]at pN
       gi_wp2
       refine⟨fun _ h=>(by cases h),?_⟩
       gi_wp2
       go_roundw
       case rel=>exact⟨m+1,by omega,by simp,by rw[pN];exact hJ4,kl.trans OV (kl.of Qf)⟩
       case measure=>simp[intOf];omega
    ·obtain rfl:m=2:=by omega
     have hfw:=hA.zW
     gi_wp2
     go_roundw
     case rel=>exact⟨k+1,by omega,by simp,by rw[mU];exact hJm,kl.trans Tf OV⟩
     case measure=>simp[intOf];omega
  ·obtain rfl:k=l.length:=by omega
   gi_wp2
   go_end0
   exact⟨⟨_,rfl⟩,.inl ⟨_,rfl,Te⟩⟩
theorem AF (n:Nat) (vS:Value) (w:World):CallsIn Fence.wide n Tryz.prog 260 #[.agg #[vS]] w fun e w'=>e=.returned (.func (.func 302) #[] #[.pointer (some ⟨w.heap.size,0,none⟩)])/\w'=w.alloc (.cells #[vS] 42):=by
 refine callsIn_of_wp Tryz.func260 rfl trivial ?_ rfl
 simp only[Tryz.ntmps260,List.size_toArray,List.length_cons,List.length_nil,Nat.reduceAdd,Nat.reduceSub,Array.replicate_succ,Array.replicate_zero,List.push_toArray,List.append_toArray,List.nil_append,List.cons_append]
 gi_wp2
 go_ret
 exact⟨rfl,rfl⟩
abbrev Pw (l:List ae):Type:={x:Nat×Nat×Int // SD l x}
theorem KS (l:List ae) (hA:kJ l) (Ba n:Nat) (hn:1<=n) (vS:Value) (K:World->World->Prop) (kl:Ji K vS l) (w:World) (Qg:w.heap[Ba]? =some (.cells #[vS] 42 (0,0))) (hP:qc w vS l):
  SeqStopsK Fence.wide n Tryz.prog 302 #[.pointer (some ⟨Ba,0,none⟩)] (fun x:Pw l=>Ga x.1) K (fun ys=>ys.map (·.1)=lT l l.length) (fun _=>True) (lT l l.length).length w:=fun q J Jx W hW hJ _ hY h0=>by
 refine(Uq l hA q Ba vS K kl (fun ys W=>∃zs:List (Pw l),zs.map (·.1)=ys/\J zs W) (fun ys W=>∃zs:List (Pw l),zs.map (·.1)=ys/\Jx zs W) n hn (fun pre x W1 WB eo wI=>?_) W (fun s A B row ⟨zs,e,h⟩ hg hr=>⟨zs,e,hJ zs A B row h hg hr⟩) ((hW.block Ba (Array.getElem?_eq_some_iff.1 Qg).1).trans Qg) (hP.below hW) ⟨[],rfl,h0⟩).mono ?_
 ·obtain⟨zs,rfl,h1⟩:=WB
  refine YieldAt.mono (hY zs ⟨x,wI⟩ W1 h1 (by simpa using eo)) ?_
  rintro e W' (⟨h2,h3,h4⟩|⟨h2,h3⟩)
  ·exact .inl ⟨h2,⟨zs++[⟨x,wI⟩],by simp,h3⟩,h4⟩
  ·exact .inr ⟨h2,⟨zs++[⟨x,wI⟩],by simp,h3⟩⟩
 ·rintro e W' ⟨h1,⟨ys,rfl,zs,h2,h3⟩|⟨pre,_,zs,h2,h3⟩⟩
  ·exact⟨h1,.inl ⟨zs,h2,h3⟩⟩
  ·exact⟨h1,.inr ⟨zs,trivial,h3⟩⟩
def zM (s:ax) (l:List ae) (x:Nat×Nat×Int):List PB:=if 0<ib s (aY l x.1).bQ x.2.2 (aY l x.2.1).bQ then[⟨x.1,x.2.1,ib s (aY l x.1).bQ x.2.2 (aY l x.2.1).bQ⟩]else[]
theorem JD (s:ax) (l:List ae):dh s l=(lT l l.length).flatMap (zM s l):=by
 have h1:∀i d,nu s l i d=(CY l i d).flatMap (zM s l):=fun i d=>by
  unfold nu CY
  by_cases h:0<=eO l (bB (aY l i).bj d)
  ·rw[if_pos h]
   simp only[List.flatMap_cons,List.flatMap_nil,List.append_nil,zM]
   by_cases h2:0<ib s (aY l i).bQ d (aY l (eO l (bB (aY l i).bj d)).toNat).bQ
   ·rw[if_pos ⟨h,h2⟩,if_pos h2]
   ·rw[if_neg fun hc=>h2 hc.2,if_neg h2]
  ·rw[if_neg h,if_neg fun hc=>h hc.1];rfl
 unfold dh gU lT
 rw[List.flatMap_assoc]
 congr 1
 funext i
 unfold gC lr
 rw[List.flatMap_assoc]
 congr 1
 funext j
 exact h1 i _
section
variable {F:Fence} {n:Nat} {P:Program} {ops:Array Oper} {Q:Exit->Act->World->Prop} {rest:List Oper} {a:Act} {w:World} {o:Oper}
theorem FT (hg:o.guard=none) (m:Operand) (t:TypeId) (ei:o.op=Op.range t m) {v:Value} {w':World} (gp:(Instr.range t (a.eval m)).run P w=.ok v w') (h:wpListIn F n P ops Q rest (a.put o.dst v) w'):wpListIn F n P ops Q (o::rest) a w:=by
 refine wpListIn_plain hg fun K' U8=>?_
 unfold Oper.wpIn
 refine⟨by simp[Oper.about,ei],?_⟩
 rw[Oper.semAt_plain F _ _ (by rw[ei];intro c kG;cases kG)]
 simp[execOp,ei,gp,Result.andThen]
 exact U8 _ _ h
theorem IY (hg:o.guard=none) (it:Operand) (ei:o.op=Op.next it false) (rr b clock:Nat) (seen:Array Nat) (es:Array MapEntry) (Sd:a.eval it=.pointer (some ⟨rr,0,none⟩)) (hr:w.heap[rr]? =some (.mapIter (some b) clock seen clock)) (hb:w.heap[b]? =some (.map es clock)) (eu:G6 es clock)
  (Tb:(leftOf es seen).toList=[]->wpListIn F n P ops Q rest (a.put o.dst (.tuple #[.bool false])) w)
  (Th:∀e∈(leftOf es seen).toList,∀w',w'.heap[rr]? =some (.mapIter (some b) clock (seen.push e.born) clock)->w'.heap[b]? =some (.map es clock)->w.grownBy w' (some rr)->w'.heap.size=w.heap.size->(Instr.entry (.pointer (some ⟨rr,0,none⟩))).run P w'=.ok (.tuple #[e.key,e.val]) w'->wpListIn F n P ops Q rest (a.put o.dst (.tuple #[.bool true,e.key,e.val])) w'):
  wpListIn F n P ops Q (o::rest) a w:=by
 refine wpListIn_plain hg fun K' U8=>?_
 unfold Oper.wpIn
 refine⟨by simp[Oper.about,ei],?_⟩
 rw[Oper.semAt_plain F _ _ (by rw[ei];intro c kG;cases kG)]
 rcases run_next_at (P:=P) w o.type rr b clock clock seen es clock hr hb eu.1 (Nat.le_refl _)with⟨h0,gp⟩|⟨e,he,w1,l7,gp⟩
 ·simp[execOp,ei,Sd,gp,Result.andThen]
  exact U8 _ _ (Tb (List.eq_nil_of_length_eq_zero (by simpa using h0)))
 ·have Nk:w1.heap[rr]? =some (.mapIter (some b) clock seen clock):=by rcases l7 with rfl|rfl<;>exact hr
  have eC:=MapKept.heap_set (o':=.mapIter (some b) clock (seen.push e.born) clock) Nk
  obtain⟨w2,qy⟩:∃w2,ChangeMaps.setBlock w1 rr (.mapIter (some b) clock (seen.push e.born) clock)=w2:=⟨_,rfl⟩
  have ho:∀k,k≠rr->w2.heap[k]? =w.heap[k]? :=fun k hk=>by
   rw[<-qy]
   refine(eC.2 k hk).trans ?_
   rcases l7 with rfl|rfl<;>rfl
  have hz:w2.heap.size=w.heap.size:=by
   rw[<-qy]
   rcases l7 with rfl|rfl<;>simp[ChangeMaps.setBlock]
  have Bk:w2.heap[rr]? =some (.mapIter (some b) clock (seen.push e.born) clock):=by rw[<-qy];exact eC.1
  have Cl:w2.os=w.os/\w2.tape=w.tape/\w2.output=w.output:=by
   rw[<-qy]
   rcases l7 with rfl|rfl<;>exact⟨rfl,rfl,rfl⟩
  have WO:b≠rr:=fun e=>by subst e;rw[hr]at hb;cases hb
  have Bg:w2.heap[b]? =some (.map es clock):=(ho b WO).trans hb
  have EG:=run_entry_at (P:=P) w2 rr b clock seen es clock e Bk Bg (mem_left he).1 eu.2
  rw[qy]at gp
  simp[execOp,ei,Sd,gp,Result.andThen]
  exact U8 _ _ (Th e he w2 Bk Bg ⟨Cl.1,Cl.2.1,Cl.2.2,by omega,fun k _ hk=>ho k fun e=>hk (by rw[e])⟩ hz EG)
end
def sa (p:ar):Value:=.agg #[.int .i64 p.eM,.int .i64 p.eG]
def E8 (es:Array MapEntry) (rr:Nat) (w:World):Nat:=match w.heap[rr]? with
 |some (.mapIter _ _ seen _)=>(leftOf es seen).size
 |_=>0
theorem ze {es:Array MapEntry} {rr b clock:Nat} {seen:Array Nat} {w:World} (h:w.heap[rr]? =some (.mapIter (some b) clock seen clock)):E8 es rr w=(leftOf es seen).size:=by unfold E8;rw[h]
theorem Ia {es:Array MapEntry} {clock:Nat} {seen:Array Nat} {e:MapEntry} (hs:G6 es clock) (he:e∈(leftOf es seen).toList):((e.key::(leftOf es (seen.push e.born)).toList.map (·.key)).Perm ((leftOf es seen).toList.map (·.key)))/\(leftOf es (seen.push e.born)).size+1=(leftOf es seen).size:=by
 obtain⟨i,hi,HL⟩:=List.getElem_of_mem he
 have h2:=E9 hs (i:=i) (e:=e) (seen:=seen) (by rw[List.getElem?_eq_getElem hi,HL])
 have hp:=xf (l:=(leftOf es seen).toList) (i:=i) (x:=e) (by rw[List.getElem?_eq_getElem hi,HL])
 rw[h2]
 refine⟨by simpa using hp.map fun e:MapEntry=>e.key,?_⟩
 have h3:=congrArg List.length h2
 have h4:=hp.length_eq
 simp only[Array.length_toList,List.length_cons]at h3 h4
 rw[<-h3]at h4;exact h4
theorem Ht {a b:List ar} (h:(a.map sa).Perm (b.map sa)):a.Perm b:=by
 have h2:=h.map (fun v:Value=>match v with| .agg ⟨[.int _ x,.int _ y]⟩=>(⟨x,y⟩:ar)|_=>⟨0,0⟩)
 simpa[List.map_map,Function.comp_def,sa]using h2
theorem KB (q Bm b:Nat) (es:Array MapEntry) (clock:Nat) (eu:G6 es clock) (ks:List ar) (hk:es.toList.map (·.key)=ks.map sa) (J Jx:List ar->World->Prop) (n:Nat) (hn:1<=n)
  (hY:∀pre x W,J pre W->pre.length<ks.length->YieldAt Fence.wide (n-1) Tryz.prog q #[sa x] W fun e W'=>
   (e=.returned (.bool true)/\J (pre++[x]) W'/\KeepsWalks W W')∨(e=.returned (.bool false)/\Jx (pre++[x]) W'))
  (W:World) (hJ:AbidesFrom W.heap.size J) (hm:W.cell? ⟨Bm,0,none⟩=some (.map (some b))) (hb:W.heap[b]? =some (.map es clock)) (h0:J [] W):
  CallsIn Fence.wide n Tryz.prog 232 #[.func (.yield q) #[] #[],.pointer (some ⟨Bm,0,none⟩)] W fun e W'=>(∃v,e=.returned v)/\
   ((∃ss:List ar,ss.Perm ks/\J ss W')∨(∃pre,Jx pre W')):=by
 refine callsIn_of_wp Tryz.func232 rfl trivial ?_ rfl
 simp only[Tryz.ntmps232,List.size_toArray,List.length_cons,List.length_nil,Nat.reduceAdd,Nat.reduceSub,Array.replicate_succ,Array.replicate_zero,List.push_toArray,List.append_toArray,List.nil_append,List.cons_append]
 have hrg:=fun(wx:World) (h:wx.heap[b]? =some (.map es clock))=>run_range_map (P:=Tryz.prog) wx 149 _ _ b es clock Tryz.underlying149 h
 gi_wp2_with (first
  |(refine FT rfl _ _ rfl (hrg _ hb) ?_)
  |gi_in)
 have od:b<W.heap.size:=(Array.getElem?_eq_some_iff.1 hb).1
 have WB:J [] (W.alloc (.mapIter (some b) clock #[] clock)):=hJ _ _ _ none h0 (grown_of ((Below.refl _ W).alloc (Nat.le_refl _) _)) (fun r h=>by cases h)
 have Nk:(W.alloc (.mapIter (some b) clock #[] clock)).heap[W.heap.size]? =some (.mapIter (some b) clock #[] clock):=World.alloc_heap_new _ _
 have Gk:(W.alloc (.mapIter (some b) clock #[] clock)).heap[b]? =some (.map es clock):=(Below.heap_alloc _ _ _ od).trans hb
 go_frame
 gi_loopw [3] (fun _ wr=>∃(seen:Array Nat) (ss:List ar),wr.heap[W.heap.size]? =some (.mapIter (some b) clock seen clock)/\wr.heap[b]? =some (.map es clock)/\(ss.map sa++(leftOf es seen).toList.map (·.key)).Perm (ks.map sa)/\J ss wr)
  (fun _ wr=>E8 es W.heap.size wr)
 case atStart=>
  exact⟨#[],[],Nk,Gk,by rw[<-hk,show(leftOf es #[]).toList=es.toList by simp[leftOf]];exact List.Perm.refl _,WB⟩
 case round=>
  obtain⟨seen,ss,hr,WO,hp,Te⟩:=hrel
  gi_wp2_with (first
   |(refine IY rfl _ rfl W.heap.size b clock seen es rfl hr WO eu ?_ ?_)
   |gi_in)
  ·intro O7
   gi_wp2
   go_end0
   rw[O7]at hp
   exact⟨⟨_,rfl⟩,.inl ⟨ss,Ht (by simpa using hp),Te⟩⟩
  ·intro e he0 w2 Bk Bg Qw kR EG
   have he:e∈(leftOf es seen).toList:=by simpa using he0
   obtain⟨Cn,eo⟩:=Ia eu he
   obtain⟨x,hx⟩:∃x,e.key=sa x:=by
    have h1:e.key∈es.toList.map (·.key):=List.mem_map_of_mem (mem_left he).1
    rw[hk]at h1
    obtain⟨x,_,hx⟩:=List.mem_map.1 h1
    exact⟨x,hx.symm⟩
   have WC:J ss w2:=hJ ss wr w2 (some W.heap.size) Te Qw (fun r e=>by cases e;exact⟨Nat.le_refl _,_,hr,rfl⟩)
   have hlen:ss.length<ks.length:=by
    have h1:=hp.length_eq
    have h2:0<(leftOf es seen).toList.length:=List.length_pos_of_mem he
    simp only[List.length_append,List.length_map]at h1
    omega
   obtain⟨fn,tmps,assign,body,hy,hR⟩:=hY ss x (w2.alloc (.cells #[.int .i64 x.eM,.int .i64 x.eG] 123)) (hJ _ _ _ none WC (grown_of ((Below.refl _ w2).alloc (Nat.le_refl _) _)) (fun r h=>by cases h)) hlen
   rw[hx]at EG ⊢
   simp only[sa]at EG hy ⊢
   gi_wp2
   refine hR.mono ?_
   rintro e3 W3 (⟨rfl,hJ3,QE⟩|⟨rfl,hJx3⟩)
   ·gi_wp2
    have J5:=KeepsWalks.alloc w2 (.cells #[.int .i64 x.eM,.int .i64 x.eG] 123)
    have hr3:=QE.same _ _ (J5.same _ _ Bk rfl) rfl
    have WN:=QE.same _ _ (J5.same _ _ Bg rfl) rfl
    go_roundw
    case rel=>
     refine⟨_,ss++[x],hr3,WN,?_,hJ3⟩
     rw[List.map_append,List.append_assoc]
     refine List.Perm.trans ?_ hp
     rw[hx]at Cn
     exact Cn.append_left _
    case measure=>rw[ze hr3,ze hr];omega
   ·gi_wp2
    refine bodyPost_ret (results_none rfl _ _ _) rfl ?_
    exact⟨⟨_,rfl⟩,.inr ⟨_,hJx3⟩⟩
theorem E0 (Bm b:Nat) (es:Array MapEntry) (clock:Nat) (eu:G6 es clock) (ks:List ar) (hk:es.toList.map (·.key)=ks.map sa) (n:Nat) (hn:1<=n) (w:World) (Wp:Bm<w.heap.size) (hm:w.cell? ⟨Bm,0,none⟩=some (.map (some b))) (hb:w.heap[b]? =some (.map es clock)):
  SeqStopsK Fence.wide n Tryz.prog 232 #[.pointer (some ⟨Bm,0,none⟩)] (fun x:ar=> #[sa x]) KeepsWalks (fun ss=>ss.Perm ks) (fun _=>True) ks.length w:=fun q J Jx W hW hJ _ hY h0=>by
 refine(KB q Bm b es clock eu ks hk J Jx n hn hY W hJ ((hW.cell (p:=⟨Bm,0,none⟩) Wp).trans hm) ((hW.block b (Array.getElem?_eq_some_iff.1 hb).1).trans hb) h0).mono ?_
 rintro e W' ⟨h1,⟨ss,h2,h3⟩|⟨pre,h3⟩⟩
 ·exact⟨h1,.inl ⟨ss,h2,h3⟩⟩
 ·exact⟨h1,.inr ⟨pre,trivial,h3⟩⟩
def Pm (ps:List ar):List Value:=ps.flatMap fun p=>[.int .i64 p.eM,.int .i64 p.eG]
theorem Lc (ps:List ar) (p:ar):Pm (ps++[p])=Pm ps++[.int .i64 p.eM,.int .i64 p.eG]:=by simp[Pm]
theorem N8 {ps:List ar} {i j:Nat} {p:ar} (h:ps[i]? =some p) (hj:j<2):(Pm ps)[i*2+j]? =([.int .i64 p.eM,.int .i64 p.eG]:List Value)[j]? :=by
 induction ps generalizing i with
 |nil=>simp at h
 |cons q r ih=>
  cases i with
  |zero=>
   simp at h;subst h
   match j,hj with
   |0,_=>rfl
   |1,_=>rfl
  |succ i=>
   simp only[List.getElem?_cons_succ]at h
   have:=ih h
   have e:(i+1)*2+j=i*2+j+2:=by omega
   rw[e]
   simpa[Pm]using this
theorem cell_two_new (W:World) (T:TypeId) (x y:Value):∀(j:Nat) (u:Value),[x,y][j]? =some u->(W.alloc (.cells #[x,y] T)).cell? ((⟨W.heap.size,0,none⟩:Addr).add j)=some u:=fun j u h=>by
 have hb:(W.alloc (.cells #[x,y] T)).heap[W.heap.size]? =some (.cells #[x,y] T (0,0)):=World.alloc_heap_new _ _
 have e:∀k,(W.alloc (.cells #[x,y] T)).cell? ⟨W.heap.size,k,none⟩=(#[x,y]:Array Value)[k]? :=fun k=>by
  unfold World.cell?
  rw[show(W.alloc (.cells #[x,y] T)).heap[(⟨W.heap.size,k,none⟩:Addr).block]? = _ from hb]
  rfl
 rw[show(⟨W.heap.size,0,none⟩:Addr).add j=⟨W.heap.size,j,none⟩ by simp[Addr.add];exact fun h=>h.symm,e]
 simpa using h
theorem Q1:(Tryz.prog.info? 123).map (fun i=>(i.zero,i.size,i.bytes))=some (some (.agg #[.int .i64 0,.int .i64 0]),2,16):=by kernel_rfl
theorem HG {β:Type} (B:Nat) (c:Array Value) (t:TypeId) (fr:Nat×Nat):Own (fun(_:β) W=>W.heap[B]? =some (.cells c t fr)):=fun _ X _ row h hg hr=>(hg.block B (Array.getElem?_eq_some_iff.1 h).1 (fun e=>by
 obtain⟨o,ho,hc⟩:=hr B e.symm
 rw[h]at ho;cases ho;cases hc)).trans h
theorem zH (Bm b:Nat) (es:Array MapEntry) (clock:Nat) (eu:G6 es clock) (ks:List ar) (hk:es.toList.map (·.key)=ks.map sa) (hl:ks.length<=1000000) (w:World) (Wp:Bm<w.heap.size) (hm:w.cell? ⟨Bm,0,none⟩=some (.map (some b))) (hb:w.heap[b]? =some (.map es clock)):
  CallsIn Fence.wide 5 Tryz.prog 282 #[.slice none 0 0,.func (.func 232) #[] #[.pointer (some ⟨Bm,0,none⟩)]] w fun e W'=>∃(ss:List ar) (v:Value),ss.Perm ks/\e=.returned v/\W'.ownsRow w.heap.size 123 2 v ss.length (Pm ss)/\(v=.slice none 0 0↔ss=[])/\Below w.heap.size w W':=by
 obtain⟨i0,hi,Bp,y5,kR⟩:=info_parts Q1
 refine callsIn_of_wp_marks Tryz.func282 rfl trivial ?_ rfl
 simp only[Tryz.ntmps282,List.size_toArray,List.length_cons,List.length_nil,Nat.reduceAdd,Nat.reduceSub,Array.replicate_succ,Array.replicate_zero,List.push_toArray,List.append_toArray,List.nil_append,List.cons_append]
 gi_wp2
 have bO:=Boxed.new w 89 (.slice none 0 0)
 have xR:Below w.heap.size w (w.alloc (.cells #[.slice none 0 0] 89)):=(Below.refl _ w).alloc (Nat.le_refl _) _
 have fo:(w.alloc (.cells #[.slice none 0 0] 89)).heap.size=w.heap.size+1:=by simp
 obtain⟨W0,Tk⟩:∃W0,w.alloc (.cells #[.slice none 0 0] 89)=W0:=⟨_,rfl⟩
 rw[Tk]at bO xR fo ⊢
 clear Tk
 have Xh:W0.cell? ⟨Bm,0,none⟩=some (.map (some b)):=(xR.cell (p:=⟨Bm,0,none⟩) Wp).trans hm
 have wC:=(xR.block b (Array.getElem?_eq_some_iff.1 hb).1).trans hb
 refine wpIn_rangeFunc_ownH (n:=5) rfl (by omega) (gf:=232) (lb:= #[.pointer (some ⟨Bm,0,none⟩)]) rfl trivial (enters_of Tryz.func232 (by kernel_rfl) rfl)
  (E0 Bm b es clock eu ks hk (5-1) (by omega) W0 (by omega) Xh wC) walksK_t (walksK_b (w:=W0)) (Below.refl _ _) (fun _=>rfl)
  (fun pre W=>(∃v,Boxed W w.heap.size 89 v/\W.ownsRow w.heap.size 123 2 v pre.length (Pm pre)/\(v=.slice none 0 0↔pre=[]))/\Below w.heap.size w W)
  (fun _ _ _=>False)
  (OwnFrom.and (Own.from (holdsRow_own w.heap.size w.heap.size 89 123 2 (fun pre=>pre.length) (fun pre=>Pm pre) (fun pre v=>v=.slice none 0 0↔pre=[])) _) (ownFrom_below (Nat.le_refl _) (by omega)))
  (fun _ _ _ _ _ hs _ _=>hs)
  ⟨⟨_,bO,World.ownsRow_nil _ _ _ _,by simp⟩,xR⟩
  (fun x a' W=>∃Bx,w.heap.size<Bx/\W.heap[Bx]? =some (.cells #[.int .i64 x.eM,.int .i64 x.eG] 123 (0,0))/\a'={tmps:= #[.slice none 0 0,.func (.func 232) #[] #[.pointer (some ⟨Bm,0,none⟩)],.pointer (some ⟨w.heap.size,0,none⟩),undef,.slice none 0 0,.pointer (some ⟨Bx,0,none⟩),.func (.func 232) #[] #[.pointer (some ⟨Bm,0,none⟩)],.agg #[.int .i64 x.eM,.int .i64 x.eG],undef,undef,undef,undef,undef],defers:=[]})
  (fun x a' _ X Y row hs hg hr=>by obtain⟨Bx,h1,h2,h3⟩:=hs;exact⟨Bx,h1,HG Bx _ _ _ () X Y row h2 hg (fun r e=>(hr r e).2),h3⟩)
  ?assign ?body ?done ?stop
 case assign=>
  rintro q pre x W K ⟨⟨v,hv,fy,hnil⟩,hB⟩ hK
  simp only[sa]
  gi_wp2
  exact hK _ _ ((KeepsOthers.alloc _ _).from _) (KeepsWalks.alloc _ _) ⟨⟨v,hv.alloc _,fy.alloc _,hnil⟩,hB.alloc hB.size _⟩ ⟨W.heap.size,hv.lt,World.alloc_heap_new _ _,rfl⟩
 case body=>
  rintro q pre x a' W hq hqr ⟨⟨v,hv,fy,hnil⟩,hB⟩ ⟨Bx,hBx,bX,rfl⟩ eo
  have hc:=hv.cell
  have V8:W.cell? ⟨Bx,0,none⟩=some (.int .i64 x.eM):=by simp[World.cell?,bX]
  have V9:W.cell? ⟨Bx,1,none⟩=some (.int .i64 x.eG):=by simp[World.cell?,bX]
  have Xn:=hB.size
  gi_wp2_with (gi_at_builtin;refine wpListIn_append_own _ rfl _ _ 89 rfl w.heap.size 123 i0 (.agg #[.int .i64 0,.int .i64 0]) 2 16 (by kernel_rfl) hi Bp y5 kR rfl (by decide) _ _ _ rfl (fy.alloc _) ⟨W.heap.size,0,none⟩ 1 1 [.int .i64 x.eM,.int .i64 x.eG] rfl rfl (cell_two_new _ _ _ _) (by simp[Value.oneCell']) (by unfold maxLen;omega) (by omega) (by simp;omega) ?_;intro v' w4 Cm yX _;obtain⟨g',Wa,rfl⟩:=ownsRow_succ Cm;obtain⟨wJ,Nr,Bk,tr,Bg⟩:=hv.appended (by decide) fy Xn (by omega) Cm yX;have qi:=wJ.cell;have Sc:=wJ.frozen)
  exact⟨tr.from _,⟨tr.size,fun k o hk hw=>tr.same k o hk (Obj.not_cells_of_walk hw)⟩,⟨⟨_,Nr,by rw[Lc,List.length_append];exact Bk,by simp⟩,hB.trans Bg⟩⟩
 case done=>
  rintro D ys W hD DG ⟨⟨v,hv,fy,hnil⟩,hB⟩ hK
  have hc:=hv.cell
  gi_wp2
  refine⟨by simp,.inl ⟨_,_,rfl,run_takeDeferred hK,?_⟩⟩
  exact⟨_,results_tmp rfl _ _ _,ys,v,DG,rfl,ownsRow_putObj fy _ hK rfl,hnil,hB.trans (belowK_b (w:=w) (Nat.le_refl _) W D _ _ (by omega) hK rfl rfl)⟩
 case stop=>
  rintro D c pre W _ _ h _
  exact h.elim
end Go.Proofs.YtgoljkjaameagaaGreat.V

namespace Go.Proofs.YtgoljkjaameagaaGreat.V
open Go.RowKit Go.Shelf Go.Lib Go.Sort
instance:Inhabited ar:=⟨⟨0,0⟩⟩
variable {P:Program} {w:World} {D:Nat->Prop} {ι:Names}
theorem xn {vs:Array Value} (h:fb P w D ι [] vs):vs= #[]:=Array.eq_empty_of_size_eq_zero h.1
theorem kX {a:AV} {r:List AV} {vs:Array Value} (h:fb P w D ι (a::r) vs):∃u us,vs=(u::us).toArray/\dm P w D ι a u/\fb P w D ι r us.toArray:=by
 obtain⟨h1,h2⟩:=h
 obtain⟨l⟩:=vs
 cases l with
 |nil=>simp at h1
 |cons u us=>
  obtain⟨u',hu,hr⟩:=h2 0 a rfl
  simp at hu;subst hu
  exact⟨u,us,rfl,hr,by simpa using h1,fun j b hj=>by
   obtain⟨v,hv,lN⟩:=h2 (j+1) b (by simpa using hj)
   exact⟨v,by simpa using hv,lN⟩⟩
def OK:Prop:=∀(vT off cap:Nat) (d:Array ar) (w:World),HoldsK fZ 2 w vT off d->vT<w.heap.size->d.size<4611686018427387904->
 Calls Tryz.prog 231 #[.slice (some ⟨vT,off,none⟩) d.size cap,.func (.func 154) #[] #[]] w fun e w'=>e=.returned (.tuple #[])/\∃d' n os,PermIn 0 d.size d d'/\SortedIn (ltOf qf) 0 d.size d'/\w'=sortWorldK fZ 2 w vT off n d' os
def OL:Prop:=∀(p:Option Addr) (cap:Nat) (fv:Value) (w:World),Calls Tryz.prog 231 #[.slice p 0 cap,fv] w fun e w'=>e=.returned (.tuple #[])/\w'=w
theorem MI (p:ar) (j:Nat) (a:AV) (h:(ai p)[j]? =some a) (P:Program) (w:World) (D:Nat->Prop) (ι:Names):dm P w D ι a (fZ p)[j]! :=by
 match j,h with
 |0,h=>simp[ai]at h;subst h;exact .fa _ _ (.int _ _)
 |1,h=>simp[ai]at h;subst h;exact .fa _ _ (.int _ _)
 |j+2,h=>simp[ai]at h
theorem ID (hC:OK) (hN:OL) (ps:List ar) (hlen:ps.length<=1048576) (σ:ay) (id:Id) (hg:σ.get id=some ⟨true,2,ps.map ai⟩):
  Call Tryz.prog 231 [.own id 0 ps.length,.fn 154 []] σ fun r σ'=>σ'.next=σ.next/\(∀x,x≠id->σ'.get x=σ.get x)/\∃qs,σ'.get id=some ⟨true,2,qs.map ai⟩/\qs.length=ps.length/\(∀x,x∈qs↔x∈ps)/\∀i j:Nat,i<j->j<qs.length->iW (jK qs j) (jK qs i)=false:=by
 refine gh fun hs D ι w vs S U A=>?_
 obtain⟨u1,XU,rfl,h1,h2⟩:=kX A
 obtain⟨u2,XV,h3,h4,h5⟩:=kX h2
 simp at h3;subst h3
 have:=xn h5
 simp at this;subst this
 obtain⟨o,cap,B,rfl,hB,ED,ho,qj,hmax,hk⟩:=iq h1
 obtain⟨XX,gf,rfl,_,hz,_,_⟩:=xo h4
 have Ud:XX= #[]:=Array.eq_empty_of_size_eq_zero (by simpa using hz)
 subst Ud
 by_cases h0:ps=[]
 ·subst h0
  refine(hN _ _ _ w).mono ?_
  rintro e w' ⟨rfl,rfl⟩
  exact⟨.iA [],σ.get,σ.next,D,ι,_,rfl,⟨rfl,fun _ _=>rfl,[],hg,rfl,fun x=>Iff.rfl,fun i j _ hj=>by simp at hj⟩,Step.refl _ _ _ _,S,U,Nat.le_refl _,.iA [] #[] (fun _=>Go.undef) rfl (fun j hj=>by simp at hj) (fun j a h=>by simp at h)⟩
 have jx:0<ps.length:=List.length_pos_iff.2 h0
 obtain⟨B',eb,R,jQ,lg⟩:=S.row id _ hg
 rw[hB]at eb;injection eb with eb;subst eb
 replace R:=R.row hk
 have fo:B.sz=2:=R.sz
 have Bj:o=0:=by rcases ho with h|h<;>omega
 subst Bj
 obtain⟨cur,T,hblk,dz,yg⟩:=R.cur
 have Cg:ps.length*2<=B.C:=by simpa using R.fits
 have hH:HoldsK fZ 2 w B.b 0 ps.toArray:=by
  intro t ht
  rw[size_flatK]at ht
  have ht2:t<ps.length*2:=by simpa using ht
  have hi:t / 2<ps.length:=by omega
  have Ah:w.frozen? ⟨B.b,0+t,none⟩=false:=by
   simp only[World.frozen?,hblk];simp
  refine⟨?_,Ah⟩
  rw[get_flatK _ _ _ _ ht]
  have hd:(ps.toArray)[t / 2]! =ps[t / 2]:=by simp[getElem!_pos,hi]
  rw[hd]
  have hj:t % 2=0∨t % 2=1:=by omega
  have ht3:0+t=(t / 2)*2+t % 2:=by omega
  rw[ht3]
  rcases hj with hj|hj
  ·obtain⟨v,hv,hr⟩:=R.at_ (t / 2) 0 (ai ps[t / 2]) _ (by simp[hi]) rfl
   rw[dB hr]at hv
   rw[hj];exact hv
  ·obtain⟨v,hv,hr⟩:=R.at_ (t / 2) 1 (ai ps[t / 2]) _ (by simp[hi]) rfl
   rw[dB hr]at hv
   rw[hj];exact hv
 have od:B.b<w.heap.size:=(Array.getElem?_eq_some_iff.1 hblk).1
 have Tr:=hC B.b 0 cap ps.toArray w hH od (by simp;omega)
 rw[show ps.toArray.size=ps.length from by simp]at Tr
 refine Tr.mono ?_
 rintro e w' ⟨rfl,d',m,os,⟨Mf,_,hperm⟩,hsort,rfl⟩
 have Ty:d'.size=ps.length:=by rw[Mf];simp
 have Pa:d'.toList.length=ps.length:=by simpa using Ty
 have hP:d'.toList.Perm ps:=by
  have e1:d'.extract 0 ps.length=d':=by rw[<-Ty];exact Array.extract_size
  have e2:ps.toArray.extract 0 ps.length=ps.toArray:=by
   have:ps.length=ps.toArray.size:=by simp
   rw[this];exact Array.extract_size
  rw[e1,e2]at hperm
  simpa using hperm
 have hF:∀t,t<ps.length*2->(flatK fZ 2 d')[t]! =(fZ d'[t / 2]!)[t % 2]! :=fun t ht=>get_flatK _ _ _ _ (by rw[Ty];exact ht)
 have hFs:(flatK fZ 2 d').size=ps.length*2:=by rw[size_flatK,Ty]
 have hw:sortWorldK fZ 2 w B.b 0 m d' os=Go.Sort.grow (Go.Sort.putRow (fun v:Value=>v) (Go.Sort.ahead w m) B.b 0 (flatK fZ 2 d')) os:=rfl
 rw[hw]
 clear hw hH
 generalize flatK fZ 2 d'=Fl at hF hFs ⊢
 have so:=S.put (r':=⟨true,2,d'.toList.map ai⟩) (cur':=Go.Sort.putCells (fun v:Value=>v) 0 Fl cur) hg rfl hB hblk (by simp[Go.Sort.putCells]) rfl rfl (by simpa[Ty]using Cg) (fun cs dz=>by
   obtain⟨x,_,rfl⟩:=List.mem_map.1 dz;rfl) (fun cs dz a ha=>by
   obtain⟨x,_,rfl⟩:=List.mem_map.1 dz
   simp[ai]at ha;rcases ha with rfl|rfl<;>rfl) (fun i j cs a hi hj=>by
   have uZ:i<d'.toList.length:=by
    have:=(List.getElem?_eq_some_iff.1 hi).1
    simpa using this
   have QD:j<2:=by
    have:=List.mem_of_getElem? hi
    obtain⟨x,_,rfl⟩:=List.mem_map.1 this
    exact(List.getElem?_eq_some_iff.1 hj).1
   have WU:cs=ai d'[i]! :=by
    rw[List.getElem?_map,List.getElem?_eq_getElem uZ]at hi
    simp at hi
    rw[<-hi,getElem!_pos d' i (by simpa using uZ)]
   subst WU
   have ER:i*2+j<ps.length*2:=by omega
   refine⟨(fZ d'[i]!)[j]!,?_,MI _ _ _ hj _ _ _ _⟩
   have mi:i*2+j<cur.size:=by rw[dz];omega
   show(Go.Sort.putCells (fun v:Value=>v) 0 Fl cur)[i*2+j]? = _
   simp only[Go.Sort.putCells,Array.getElem?_mapIdx,Array.getElem?_eq_getElem mi,Option.map_some]
   rw[if_pos ⟨Nat.zero_le _,by rw[hFs];omega⟩,Nat.sub_zero,hF _ ER,show(i*2+j) / 2=i from by omega,show(i*2+j) % 2=j from by omega])
 obtain⟨S1,Py⟩:=so
 have Nn:(Go.Sort.putRow (fun v:Value=>v) (Go.Sort.ahead w m) B.b 0 Fl).heap.size=w.heap.size:=by simp
 have O5:∀k,k<(w.setRow B.b (Go.Sort.putCells (fun v:Value=>v) 0 Fl cur)).heap.size->(Go.Sort.grow (Go.Sort.putRow (fun v:Value=>v) (Go.Sort.ahead w m) B.b 0 Fl) os).heap[k]? =(w.setRow B.b (Go.Sort.putCells (fun v:Value=>v) 0 Fl cur)).heap[k]? :=fun k hk=>by
  have Ki:k<w.heap.size:=by simpa using hk
  rw[heap_grow_old _ _ (by rw[Nn];exact Ki)]
  simp only[Go.Sort.putRow,Go.Sort.mapBlock,heap_ahead,Array.getElem?_modify]
  by_cases QF:B.b=k
  ·subst QF
   rw[setRow_heap w B.b cur _ T _ hblk,if_pos rfl,hblk];rfl
  ·rw[if_neg QF,setRow_other w B.b k _ (fun h=>QF h.symm)]
 have kR:(w.setRow B.b (Go.Sort.putCells (fun v:Value=>v) 0 Fl cur)).heap.size<=(Go.Sort.grow (Go.Sort.putRow (fun v:Value=>v) (Go.Sort.ahead w m) B.b 0 Fl) os).heap.size:=by
  rw[size_grow,Nn];simp
 have S2:=S1.stay (D':=D) (ι':=ι) O5 kR (fun _ h=>h) (fun b hb=>Nat.lt_of_lt_of_le (S1.dead b hb) kR) (fun _ h=>.inl h) (fun _ _ h=>h)
 have Pz:=Py.trans (Step.stay (D':=D) (ι':=ι) S1 O5 kR (by simp[Go.Sort.grow,Go.Sort.putRow,Go.Sort.mapBlock,Go.Sort.ahead]) (by simp[Go.Sort.grow,Go.Sort.putRow,Go.Sort.mapBlock,Go.Sort.ahead]) (by simp[Go.Sort.grow,Go.Sort.putRow,Go.Sort.mapBlock,Go.Sort.ahead]) (fun _ h=>h) (fun _ h=>.inl h) (fun _ _ h=>h))
 refine⟨.iA [],bL σ.get id ⟨true,2,d'.toList.map ai⟩,σ.next,D,ι,_,rfl,⟨rfl,fun x hx=>by simp[bL,hx],d'.toList,by simp[bL],Pa,fun x=>hP.mem_iff,fun i j EM hj=>?_⟩,Pz,S2,U,Nat.le_refl _,.iA [] #[] (fun _=>Go.undef) rfl (fun j hj=>by simp at hj) (fun j a h=>by simp at h)⟩
 have h:=hsort i j (Nat.zero_le _) EM (by omega)
 rw[ltOf,nw]at h
 have e1:d'[j]! =jK d'.toList j:=by rw[jZ hj,getElem!_pos d' j (by simpa using hj)];rfl
 have hi:i<d'.toList.length:=by omega
 have e2:d'[i]! =jK d'.toList i:=by rw[jZ hi,getElem!_pos d' i (by simpa using hi)];rfl
 rw[<-e1,<-e2];exact h
end Go.Proofs.YtgoljkjaameagaaGreat.V

namespace Go.Proofs
open Go.Shelf
def Tryz.Fy:Go.Shelf.Ren:=⟨fun|6=>231|15=>209|14=>283|28=>271|29=>272|20=>311|21=>312|22=>313|23=>314|24=>315|25=>316|26=>317|27=>318|46=>331|47=>307|48=>308|49=>332|50=>333|57=>338|n=>n,fun|22=>89|24=>123|25=>215|3=>3|39=>273|0=>0|53=>333|55=>335|4=>4|46=>327|45=>326|50=>223|5=>5|9=>9|66=>360|70=>364|76=>382|77=>383|n=>n,fun|n=>n⟩
theorem Tryz.Lo:Go.Proofs.SlLaysF0.n6 Tryz.prog Tryz.Fy:={
 mixed:=by kernel_rfl
 f6:=⟨Tryz.f231.name,by decide,Tryz.func231.trans (congrArg some (by kernel_rfl))⟩
 f14:=⟨Tryz.f283.name,by decide,Tryz.func283.trans (congrArg some (by kernel_rfl))⟩
 f15:=Tryz.func209.trans (congrArg some (by kernel_rfl))
 f20:=⟨Tryz.f311.name,by decide,Tryz.func311.trans (congrArg some (by kernel_rfl))⟩
 f21:=⟨Tryz.f312.name,by decide,Tryz.func312.trans (congrArg some (by kernel_rfl))⟩
 f22:=⟨Tryz.f313.name,by decide,Tryz.func313.trans (congrArg some (by kernel_rfl))⟩
 f23:=⟨Tryz.f314.name,by decide,Tryz.func314.trans (congrArg some (by kernel_rfl))⟩
 f24:=⟨Tryz.f315.name,by decide,Tryz.func315.trans (congrArg some (by kernel_rfl))⟩
 f25:=⟨Tryz.f316.name,by decide,Tryz.func316.trans (congrArg some (by kernel_rfl))⟩
 f26:=⟨Tryz.f317.name,by decide,Tryz.func317.trans (congrArg some (by kernel_rfl))⟩
 f27:=⟨Tryz.f318.name,by decide,Tryz.func318.trans (congrArg some (by kernel_rfl))⟩
 f28:=Tryz.func271.trans (congrArg some (by kernel_rfl))
 f29:=Tryz.func272.trans (congrArg some (by kernel_rfl))
 f46:=⟨Tryz.f331.name,by decide,Tryz.func331.trans (congrArg some (by kernel_rfl))⟩
 f47:=Tryz.func307.trans (congrArg some (by kernel_rfl))
 f48:=Tryz.func308.trans (congrArg some (by kernel_rfl))
 f49:=⟨Tryz.f332.name,by decide,Tryz.func332.trans (congrArg some (by kernel_rfl))⟩
 f50:=⟨Tryz.f333.name,by decide,Tryz.func333.trans (congrArg some (by kernel_rfl))⟩
 f57:=⟨Tryz.f338.name,by decide,Tryz.func338.trans (congrArg some (by kernel_rfl))⟩
 t0:=Tryz.underlying0
 a0:=Tryz.isAgg0
 z0:=Tryz.sizeOf0
 v0:=Tryz.zeroValue0
 t3:=Tryz.underlying3
 a3:=Tryz.isAgg3
 z3:=Tryz.sizeOf3
 v3:=Tryz.zeroValue3
 t4:=Tryz.underlying4
 a4:=Tryz.isAgg4
 z4:=Tryz.sizeOf4
 v4:=Tryz.zeroValue4
 t5:=Tryz.underlying5
 a5:=Tryz.isAgg5
 z5:=Tryz.sizeOf5
 v5:=Tryz.zeroValue5
 t9:=Tryz.underlying9
 a9:=Tryz.isAgg9
 z9:=Tryz.sizeOf9
 v9:=Tryz.zeroValue9
 t22:=Tryz.underlying89
 a22:=Tryz.isAgg89
 z22:=Tryz.sizeOf89
 v22:=Tryz.zeroValue89
 t25:=Tryz.underlying215
 a25:=Tryz.isAgg215
 z25:=Tryz.sizeOf215
 v25:=Tryz.zeroValue215
 t39:=Tryz.underlying273
 a39:=Tryz.isAgg273
 z39:=Tryz.sizeOf273
 v39:=Tryz.zeroValue273
 t45:=Tryz.underlying326
 a45:=Tryz.isAgg326
 z45:=Tryz.sizeOf326
 v45:=Tryz.zeroValue326
 t46:=Tryz.underlying327
 a46:=Tryz.isAgg327
 z46:=Tryz.sizeOf327
 v46:=Tryz.zeroValue327
 t50:=Tryz.underlying223
 a50:=Tryz.isAgg223
 z50:=Tryz.sizeOf223
 v50:=Tryz.zeroValue223
 t53:=Tryz.underlying333
 a53:=Tryz.isAgg333
 z53:=Tryz.sizeOf333
 v53:=Tryz.zeroValue333
 t55:=Tryz.underlying335
 a55:=Tryz.isAgg335
 z55:=Tryz.sizeOf335
 v55:=Tryz.zeroValue335
 t66:=Tryz.underlying360
 a66:=Tryz.isAgg360
 z66:=Tryz.sizeOf360
 v66:=Tryz.zeroValue360
 t70:=Tryz.underlying364
 a70:=Tryz.isAgg364
 z70:=Tryz.sizeOf364
 v70:=Tryz.zeroValue364
 t76:=Tryz.underlying382
 a76:=Tryz.isAgg382
 z76:=Tryz.sizeOf382
 v76:=Tryz.zeroValue382
 t77:=Tryz.underlying383
 a77:=Tryz.isAgg383
 z77:=Tryz.sizeOf383
 v77:=Tryz.zeroValue383}
end Go.Proofs

namespace Go.Proofs.YtgoljkjaameagaaGreat.V
open Go.RowKit Go.Shelf Go.Lib Go.Sort
theorem BQ (w:World) (a b:Int):Calls Tryz.prog 210 #[.int .i64 a,.int .i64 b] w fun e w'=>e=.returned (.int .i64 (r8 a b))/\w=w':=by
 go_enter Tryz.func210,Tryz.ntmps210
 go_wp2_with go_in
 all_goals
  go_ret
  exact⟨GM (by unfold r8;split<;>(try split)<;>omega),rfl⟩
theorem N1 (w:World) (a b:Int) (g:Nat) (ha:w.cell? ⟨g,0,none⟩=some (.int .i64 a)) (hb:w.cell? ⟨g,1,none⟩=some (.int .i64 b)):Calls Tryz.prog 233 #[.slice (some ⟨g,0,none⟩) 2 2] w fun e w'=>e=.returned (.int .i64 (N2 a b))/\w=w':=by
 go_enter Tryz.func233,Tryz.ntmps233
 go_wp2_with fail
 go_loop [8] (fun i=>∃k:Nat,k<=2/\i=.int .i64 k/\Hid ((1<=k->a=0)/\(2<=k->b=0))) (fun i=>2-(intOf i).toNat)
 case atStart=>exact⟨0,by omega,rfl,Lib.hid ⟨fun h=>by omega,fun h=>by omega⟩⟩
 case round=>
  obtain⟨k,hk,rfl,hz⟩:=hrel
  have h3:k=0∨k=1∨k=2:=by omega
  rcases h3 with rfl|rfl|rfl
  ·go_wp2_with fail
   ·rename_i h
    go_ret
    exact⟨GM (by unfold N2;simp_all),rfl⟩
   ·rename_i h
    go_round
    case rel=>exact⟨1,by omega,rfl,Lib.hid ⟨fun _=>by simpa using h,fun h=>by omega⟩⟩
    case measure=>simp[intOf]
  ·have h0:=hz.out.1 (by omega)
   replace h0:=Lib.hid h0
   go_wp2_with fail
   ·go_ret
    exact⟨GM (by unfold N2;rw[if_pos h0.out]),rfl⟩
   ·rename_i h
    go_round
    case rel=>exact⟨2,by omega,rfl,Lib.hid ⟨fun _=>h0.out,fun _=>by simpa using h⟩⟩
    case measure=>simp[intOf]
  ·have h0:=Lib.hid (hz.out.1 (by omega))
   have h1:=Lib.hid (hz.out.2 (by omega))
   go_wp2_with fail
   go_ret
   exact⟨GM (by unfold N2;rw[if_pos h0.out,h1.out]),rfl⟩
def Grown (w w':World):Prop:=∃(q:Nat) (os:Array Obj),w'=Go.Sort.grow (w.drewN q) os
theorem Grown.refl (w:World):Grown w w:=⟨0, #[],by rw[grow_empty];rfl⟩
theorem Grown.alloc {w w':World} (h:Grown w w') (o:Obj):Grown w (w'.alloc o):=by
 obtain⟨q,os,rfl⟩:=h
 exact⟨q,os++ #[o],by rw[alloc_eq_grow,grow_grow]⟩
theorem Grown.drew {w w':World} (h:Grown w w'):Grown w w'.drew:=by
 obtain⟨q,os,rfl⟩:=h
 exact⟨q+1,os,by rw[drew_grow];rfl⟩
theorem Grown.dN {w w':World} (h:Grown w w') (n:Nat):Grown w (w'.drewN n):=by
 obtain⟨q,os,rfl⟩:=h
 exact⟨q+n,os,by
  show Go.Sort.grow ((w.drewN q).drewN n) os=Go.Sort.grow (w.drewN (q+n)) os
  simp[World.drewN,Nat.add_assoc]⟩
theorem uG (w:World) (a b:ar):Calls Tryz.prog 154 #[.agg #[.int .i64 a.eM,.int .i64 a.eG],.agg #[.int .i64 b.eM,.int .i64 b.eG]] w fun e w'=>e=.returned (.int .i64 (qf a b))/\Grown w w':=by
 go_enter Tryz.func154,Tryz.ntmps154
 go_wp2_with fail
 go_region_held3 (fun w'=>w'.cell? ⟨w.heap.size,0,none⟩=some (.int .i64 a.eM)/\w'.cell? ⟨w.heap.size,1,none⟩=some (.int .i64 a.eG)/\
   w'.cell? ⟨w.heap.size+1,0,none⟩=some (.int .i64 b.eM)/\w'.cell? ⟨w.heap.size+1,1,none⟩=some (.int .i64 b.eG))
  (first|go_keep)
  (first|(go_at_call 210;refine(BQ _ _ _).mono ?_;rintro e w' ⟨rfl,rfl⟩)|(go_at_call 233;refine(N1 _ (r8 a.eG b.eG) (r8 a.eM b.eM) _ (by simp[go_sem]) (by simp[go_sem])).mono ?_;rintro e w' ⟨rfl,rfl⟩))
 go_wp2_with fail
 go_ret
 refine⟨rfl,?_⟩
 repeat(first|(with_reducible exact Grown.refl _)|(refine Grown.alloc ?_ _)|(refine Grown.drew ?_)|(refine Grown.dN ?_ _))
theorem XT:SWO (ltOf qf) where
 irrefl x:=by rw[ltOf,nw];exact nB
 trans x y z h1 h2:=by rw[ltOf,nw]at *;exact iD h1 h2
 ntrans x y z h1 h2:=by rw[ltOf,nw]at *;rw[pR]at *;omega
theorem UA:OK:=fun vT off cap d w hH hblk fo=>by
 have eg:∀args w,(callFunc 154 args).run Tryz.prog w=.ok (.enter 154 args) w:=enters_of Tryz.func154 (by kernel_rfl) rfl
 have h:=AnyQ.slices_SortFunc Tryz.Lo 2 Tryz.isAgg123 Tryz.sizeOf123 fZ (fun _=>rfl) (fun x v hv=>by simp[fZ]at hv;rcases hv with rfl|rfl<;>rfl) qf XT 154 #[] vT off cap d w eg (fun m os dk _ x y=>(uG _ x y).mono fun _ _ ⟨he,q,os',hw⟩=>⟨he,q,os',hw⟩) hH hblk fo
 exact h
theorem Pp:OL:=fun p cap fv w=>AnyF.slices_SortFunc_none Tryz.Lo p cap fv w
end Go.Proofs.YtgoljkjaameagaaGreat.V

namespace Go.Proofs.YtgoljkjaameagaaGreat.V
open Go.RowKit
attribute [local irreducible] ek wpOps fK Call
attribute [local go_sem] aI fw eH fE fD dd upd cm K.av cG AV.cells AV.cell rowOf rowsOf part ld rowAt bL bY dx dO gz bE cW dY fC eY dj dS cU cR dG dH bH aZ cJ bG cL cK dQ dU dR cI bJ cV dP bF aL cP cz gy bq cF bI aW dq bm dy AV.undef bw bz dJ dM dD dI cE dX ea cq dW dV cN cQ List.getD_cons_zero List.getD_cons_succ List.getD_nil List.all_cons List.all_nil Bool.and_true Bool.true_and Bool.and_self Bool.not_true Bool.not_false Option.map_some Option.map_none Option.bind_some Option.bind_none List.length_cons List.length_nil List.take_succ_cons List.take_zero List.take_nil List.drop_succ_cons List.drop_zero List.drop_nil List.head?_cons List.map_cons List.map_nil List.getElem?_cons_zero List.getElem?_cons_succ List.cons_append List.nil_append List.append_nil List.length_map List.set_cons_zero List.set_cons_succ Nat.reduceMul eq_self Int.toNat_natCast Int.natCast_nonneg and_self true_and and_true decide_true decide_false Bool.false_eq_true Nat.zero_add Nat.add_zero List.contains_cons List.contains_nil Bool.or_false Bool.false_or beq_self_eq_true Nat.reduceBEq ne_eq not_true_eq_false not_false_eq_true Id.mk.injEq false_and and_false Nat.reduceLT Int.reduceLE Int.reduceLT Int.reduceToNat Int.reduceNeg Int.reduceAdd Nat.le_refl List.length_append beq_true beq_false Bool.not_eq_eq_eq_not or_false false_or dK aq au aH bf bt bZ aU bh aT bc cH bx
structure nU (n:Nat) (px:Nat->Option Nat) (L:Nat->Nat):Prop where
 top:∀k,k<n->px k=none->L k=k
 up:∀k j,k<n->px k=some j->j<k/\L j=L k
theorem nU.root {n:Nat} {px:Nat->Option Nat} {L:Nat->Nat} (h:nU n px L) (hL:jL L) {k:Nat} (hk:k<n) (hr:L k=k):px k=none:=by
 rcases hp:px k with _|j
 ·rfl
 ·obtain⟨h1,h2⟩:=h.up k j hk hp
  have:=hL.le j
  omega
theorem nU.start (n:Nat):nU n (fun _=>none) id:=⟨fun _ _ _=>rfl,fun _ _ _ h=>by cases h⟩
theorem nU.join {n:Nat} {px:Nat->Option Nat} {L:Nat->Nat} (h:nU n px L) (hL:jL L) (b:PB) (eo:min (L b.a) (L b.b)<max (L b.a) (L b.b)):nU n (fun k=>if k=max (L b.a) (L b.b)then some (min (L b.a) (L b.b))else px k) (eZ L b):=by
 have ha:=hL.idem b.a
 have hb:=hL.idem b.b
 have Ak:L (min (L b.a) (L b.b))=min (L b.a) (L b.b):=by
  rcases Nat.le_total (L b.a) (L b.b)with h|h
  ·rw[Nat.min_eq_left h,ha]
  ·rw[Nat.min_eq_right h,hb]
 have TP:L (max (L b.a) (L b.b))=max (L b.a) (L b.b):=by
  rcases Nat.le_total (L b.a) (L b.b)with h|h
  ·rw[Nat.max_eq_right h,hb]
  ·rw[Nat.max_eq_left h,ha]
 unfold eZ
 generalize min (L b.a) (L b.b)=lo at *
 generalize max (L b.a) (L b.b)=hi at *
 refine⟨fun k hk hp=>?_,fun k j hk hp=>?_⟩
 ·by_cases Mc:k=hi
  ·rw[if_pos Mc]at hp;cases hp
  ·rw[if_neg Mc]at hp
   have:=h.top k hk hp
   rw[if_neg (by omega)];exact this
 ·by_cases Mc:k=hi
  ·rw[if_pos Mc]at hp
   cases hp
   subst Mc
   exact⟨eo,by rw[if_neg (by omega),if_pos TP,Ak]⟩
  ·rw[if_neg Mc]at hp
   obtain⟨h1,h2⟩:=h.up k j hk hp
   exact⟨h1,by rw[h2]⟩
theorem Au {L:Nat->Nat} {b:PB} (h:L b.a=L b.b):eZ L b=L:=by
 funext k
 unfold eZ
 rw[h,Nat.max_self,Nat.min_self]
 split
 ·rename_i h;exact h.symm
 ·rfl
def tp (G:Nat->Id) (px:Nat->Option Nat) (k:Nat):List AV:=[match px k with|none=>.il|some j=>.ptr (G j) 0 0,.int .i64 (k:Int)]
def uB (g:Rows) (G:Nat->Id) (n:Nat) (px:Nat->Option Nat):Prop:=∀k,k<n->g (G k)=some ⟨true,2,[tp G px k]⟩
theorem uB.frame {g g':Rows} {G:Nat->Id} {n:Nat} {px:Nat->Option Nat} (h:uB g G n px) (hf:∀k,k<n->g' (G k)=g (G k)):uB g' G n px:=fun k hk=>(hf k hk).trans (h k hk)
theorem lZ {G:Nat->Id} {px:Nat->Option Nat} {k:Nat} (h:px k=none):tp G px k=[.il,.int .i64 (k:Int)]:=by rw[tp,h]
theorem ud {G:Nat->Id} {px:Nat->Option Nat} {k j:Nat} (h:px k=some j):tp G px k=[.ptr (G j) 0 0,.int .i64 (k:Int)]:=by rw[tp,h]
theorem zX (G:Nat->Id) (n:Nat) (px:Nat->Option Nat) (L:Nat->Nat) (h:nU n px L) (k:Nat) (hk:k<n) (σ:ay) (hG:uB σ.get G n px):
  Call Tryz.prog 334 [.ptr (G k) 0 0] σ fun r σ'=>r=.ptr (G (L k)) 0 0/\σ'.get=σ.get/\σ.next<=σ'.next:=by
 refine e6 eK rfl fun hl=>?_
 clear hl
 (try((repeat(revert hN;revert N;apply Pn.out));refine wk @Nat.zero_add ?_;(repeat(refine Pn.mk ?_;intro N hN))))
 refine aX (fun m env st=>∃j:Nat,m=j/\j<n/\env 0=.ptr (G j) 0 0/\L j=L k/\st.get=σ.get/\σ.next<=st.next) k ⟨k,rfl,hk,sd @Nat.zero_add,rfl,by(try dsimp only),by(try dsimp only);omega⟩ ?_
 rintro m env_b st_b ⟨j,rfl,hj,b0,hLj,hg,hle⟩ eX
 clear eX
 have fy:=hG m hj
 rcases hp:px m with _|j
 ·rw[lZ hp]at fy
  (try((repeat(revert hN;revert N;apply Pn.out));refine wk (tw @b0 (tw @hg @fy)) ?_;(repeat(refine Pn.mk ?_;intro N hN))))
  exact fe (.inl rfl) (vs:=[.ptr (G m) 0 0]) (sd @Nat.zero_add) ⟨by rw[<-hLj,h.top m hj hp];rfl,by first|trivial|rfl|exact hg,by(try dsimp only);omega⟩
 ·rw[ud hp]at fy
  obtain⟨h1,h2⟩:=h.up m j hj hp
  (try((repeat(revert hN;revert N;apply Pn.out));refine wk (tw @b0 (tw @hg @fy)) ?_;(repeat(refine Pn.mk ?_;intro N hN))))
  exact⟨j,h1,j,rfl,by omega,sd @Nat.zero_add,by omega,by first|trivial|rfl|exact hg,by(try dsimp only);omega⟩
end Go.Proofs.YtgoljkjaameagaaGreat.V

namespace Go.Proofs.YtgoljkjaameagaaGreat.V
open Go.RowKit
attribute [local irreducible] ek wpOps fK Call
attribute [local go_sem] aI fw eH fE fD dd upd cm K.av cG AV.cells AV.cell rowOf rowsOf part ld rowAt bL bY dx dO gz bE cW dY fC eY dj dS cU cR dG dH bH aZ cJ bG cL cK dQ dU dR cI bJ cV dP bF aL cP cz gy bq cF bI aW dq bm dy AV.undef bw bz dJ dM dD dI cE dX ea cq dW dV cN cQ List.getD_cons_zero List.getD_cons_succ List.getD_nil List.all_cons List.all_nil Bool.and_true Bool.true_and Bool.and_self Bool.not_true Bool.not_false Option.map_some Option.map_none Option.bind_some Option.bind_none List.length_cons List.length_nil List.take_succ_cons List.take_zero List.take_nil List.drop_succ_cons List.drop_zero List.drop_nil List.head?_cons List.map_cons List.map_nil List.getElem?_cons_zero List.getElem?_cons_succ List.cons_append List.nil_append List.append_nil List.length_map List.set_cons_zero List.set_cons_succ eq_self Int.toNat_natCast Int.natCast_nonneg and_self true_and and_true decide_true decide_false Bool.false_eq_true Nat.zero_add Nat.add_zero List.contains_cons List.contains_nil Bool.or_false Bool.false_or beq_self_eq_true ne_eq not_true_eq_false not_false_eq_true Id.mk.injEq false_and and_false Nat.le_refl List.length_append beq_true beq_false Bool.not_eq_eq_eq_not or_false false_or dK aq au aH bf bt bZ aU bh aT bc cH bx
abbrev mI:MK:=⟨false,[.tI]⟩
def tu (l:List (Nat×Nat)):List (List AV):=l.map fun p=>[.int .i64 (p.1:Int),.int .i64 (p.2:Int)]
theorem Cx (r:Nat):∀(l:List (Nat×Nat)) (i:Nat),((∀p∈l,p.1≠r)->gr mI [.int .i64 (r:Int)] (tu l) i=some none)/\(∀j v,l[j]? =some (r,v)->(∀x y,x<j->l[x]? =some y->y.1≠r)->gr mI [.int .i64 (r:Int)] (tu l) i=some (some (i+j)))
 |[],i=>⟨fun _=>rfl,fun j v h=>by simp at h⟩
 |p::l,i=>by
  obtain⟨h1,h2⟩:=Cx r l (i+1)
  by_cases h:p.1=r
  ·refine⟨fun hp=>absurd h (hp p (by simp)),fun j v hj hf=>?_⟩
   have Se:j=0:=by
    rcases Nat.eq_zero_or_pos j with h0|h0
    ·exact h0
    ·exact absurd h (hf 0 p h0 (by simp))
   subst Se
   simp[tu,gr,eY,fC,MK.ks,h]
  ·have hd:¬((r:Int)=(p.1:Int)):=by omega
   have mM:¬r=p.1:=fun he=>h he.symm
   have step:gr mI [.int .i64 (r:Int)] (tu (p::l)) i=gr mI [.int .i64 (r:Int)] (tu l) (i+1):=by
    unfold tu
    simp[gr,MK.ks,eY,fC,hd,mM,h]
   rw[step]
   refine⟨fun hp=>h1 fun q hq=>hp q (by simp[hq]),fun j v hj hf=>?_⟩
   cases j with
   |zero=>simp at hj;rw[hj]at h;exact absurd rfl h
   |succ j=>
    rw[h2 j v (by simpa using hj) fun x y hx hy=>hf (x+1) y (by omega) (by simpa using hy)]
    congr 2;omega
theorem y7 {r:Nat} {l:List (Nat×Nat)}:((∀p∈l,p.1≠r)->gm mI (.int .i64 (r:Int)) (tu l)=some none)/\(∀j v,l[j]? =some (r,v)->(∀x y,x<j->l[x]? =some y->y.1≠r)->gm mI (.int .i64 (r:Int)) (tu l)=some (some j)):=by
 have e:gm mI (.int .i64 (r:Int)) (tu l)=gr mI [.int .i64 (r:Int)] (tu l) 0:=by
  unfold gm
  rw[if_pos ⟨rfl,rfl,rfl⟩];rfl
 obtain⟨h1,h2⟩:=Cx r l 0
 rw[e]
 exact⟨h1,fun j v hj hf=>by rw[h2 j v hj hf,Nat.zero_add]⟩
def lp (k:Nat) (L:Nat->Nat):List (List AV):=tu (leads k L).zipIdx
theorem E7 {k:Nat} {L:Nat->Nat} (h:L k=k):lp (k+1) L=lp k L++[[.int .i64 (k:Int),.int .i64 ((leads k L).length:Int)]]:=by
 unfold lp
 rw[gY,if_pos h,List.zipIdx_append]
 simp[tu]
theorem E6 {k:Nat} {L:Nat->Nat} (h:L k≠k):lp (k+1) L=lp k L:=by
 unfold lp
 rw[gY,if_neg h,List.append_nil]
theorem H8 {k:Nat} {L:Nat->Nat} (h:L k=k):gm mI (.int .i64 (k:Int)) (lp k L)=some none:=by
 refine y7.1 fun p hp=>?_
 have:=List.fst_mem_of_mem_zipIdx hp
 have:=(zd.1 this).1
 omega
theorem zb {n:Nat} {L:Nat->Nat} {x y:Nat} (hx:x<(leads n L).length) (hy:y<(leads n L).length) (h:(leads n L)[x]=(leads n L)[y]):x=y:=by
 have hp:=List.pairwise_iff_getElem.1 (um n L)
 rcases Nat.lt_trichotomy x y with eo|he|eo
 ·exact absurd h (hp x y hx hy eo)
 ·exact he
 ·exact absurd h.symm (hp y x hy hx eo)
theorem za {k:Nat} {L:Nat->Nat} (hL:jL L) (h:L k≠k):gm mI (.int .i64 (L k:Int)) (lp k L)=some (some (cu L k))/\(lp k L)[cu L k]? =some [.int .i64 (L k:Int),.int .i64 (cu L k:Int)]/\cu L k<(leads k L).length:=by
 have eo:L k<k:=Nat.lt_of_le_of_ne (hL.le k) h
 have hn:cu L (L k)=cu L k:=by rw[cu,hL.idem,cu]
 have hg:=pQ hL eo
 rw[hn,hL.idem]at hg
 have hl:cu L k<(leads k L).length:=(List.getElem?_eq_some_iff.1 hg).1
 have hz:(leads k L).zipIdx[cu L k]? =some (L k,cu L k):=by simp[List.getElem?_zipIdx,hg]
 refine⟨y7.2 _ _ hz fun x y hx hy=>?_,by unfold lp tu;rw[List.getElem?_map,hz];rfl,hl⟩
 intro he
 rw[List.getElem?_zipIdx]at hy
 have Sv:x<(leads k L).length:=by omega
 rw[List.getElem?_eq_getElem Sv]at hy
 simp at hy
 rw[<-hy]at he
 simp at he
 have e2:(leads k L)[cu L k]=L k:=(List.getElem?_eq_some_iff.1 hg).2
 have:=zb Sv hl (he.trans e2.symm)
 omega
def jT (k:Nat) (L:Nat->Nat):List (List Nat):=(leads k L).map (members k L)
theorem rf (k:Nat) (L:Nat->Nat):(jT k L).length=(leads k L).length:=by simp[jT]
theorem Ew {k:Nat} {L:Nat->Nat} (hL:jL L) (h:L k=k):jT (k+1) L=jT k L++[[k]]:=by
 unfold jT
 rw[gY,if_pos h,List.map_append,List.map_cons,List.map_nil,jA,if_pos h,nC hL (Nat.le_refl k),List.nil_append]
 congr 1
 refine List.map_congr_left fun r hr=>?_
 have:=(zd.1 hr).1
 rw[jA,if_neg (by omega),List.append_nil]
theorem Ey {k:Nat} {L:Nat->Nat} (hL:jL L) (h:L k≠k):(jT k L)[cu L k]? =some (members k L (L k))/\jT (k+1) L=(jT k L).set (cu L k) (members k L (L k)++[k]):=by
 obtain⟨_,_,hl⟩:=za hL h
 have eo:L k<k:=Nat.lt_of_le_of_ne (hL.le k) h
 have hg:=pQ hL eo
 have hn:cu L (L k)=cu L k:=by rw[cu,hL.idem,cu]
 rw[hn,hL.idem]at hg
 refine⟨by unfold jT;rw[List.getElem?_map,hg];rfl,?_⟩
 unfold jT
 rw[gY,if_neg h,List.append_nil]
 refine List.ext_getElem? fun i=>?_
 rw[List.getElem?_set,List.getElem?_map,List.length_map]
 by_cases hi:cu L k=i
 ·subst hi
  rw[if_pos rfl,if_pos hl,hg,Option.map_some,jA,if_pos rfl]
 ·rw[if_neg hi,List.getElem?_map]
  rcases hr:(leads k L)[i]? with _|r
  ·rfl
  ·rw[Option.map_some,Option.map_some,jA,if_neg,List.append_nil]
   rintro rfl
   obtain⟨mj,he⟩:=List.getElem?_eq_some_iff.1 hr
   have e2:(leads k L)[cu L k]=L k:=(List.getElem?_eq_some_iff.1 hg).2
   exact hi (zb hl mj (e2.trans he.symm))
theorem CT (k:Nat) (L:Nat->Nat) (r:Nat):(members k L r).length<=k:=by
 have:=List.length_filter_le (fun x=>L x==r) (List.range k)
 simpa[members]using this
def LZ (g:Rows) (o:Id) (L:List (List Nat)) (nx:Nat):Prop:=∃rows ids,g o=some ⟨true,1,rows⟩/\dE RY g rows L ids/\ids.Nodup/\(∀i∈ids,i.site=320026008/\i.br<nx)/\o.site=320025002/\o.br<nx
theorem MR {g':Rows} {v v' yu j:Nat} (h1:g' ⟨320025002,v⟩=some ⟨true,1,[[.own ⟨320026008,v'⟩ 0 1]]⟩) (h2:g' ⟨320026008,v'⟩=some ⟨true,1,[eN j]⟩) (hv:v<yu) (ox:v'<yu):LZ g' ⟨320025002,v⟩ [[j]] yu:=
 ⟨_,[⟨320026008,v'⟩],h1,.one ⟨_,rfl,h2,rfl⟩,by simp,fun i hi=>by rw[List.mem_singleton.1 hi];exact⟨rfl,ox⟩,rfl,hv⟩
theorem LZ.new {g:Rows} {o:Id} {L:List (List Nat)} {nx:Nat} (h:LZ g o L nx) (j:Nat):∃rows,g o=some ⟨true,1,rows⟩/\rows.length=L.length/\∀(g':Rows) (v v' yu:Nat),nx<=v'->v<yu->v'<yu->g' ⟨320025002,v⟩=some ⟨true,1,rows++[[.own ⟨320026008,v'⟩ 0 1]]⟩->g' ⟨320026008,v'⟩=some ⟨true,1,[eN j]⟩->(∀i:Id,i.site=320026008->i.br<nx->g' i=g i)->LZ g' ⟨320025002,v⟩ (L++[[j]]) yu:=by
 obtain⟨rows,ids,h1,h2,h3,h4,h5,h6⟩:=h
 refine⟨rows,h1,h2.len,fun g' v v' yu hv wJ Nr q1 q2 q3=>⟨_,ids++[⟨320026008,v'⟩],q1,(h2.frame Ra fun i hi=>q3 i (h4 i hi).1 (h4 i hi).2).app (.one ⟨_,rfl,q2,rfl⟩),?_,fun i hi=>?_,rfl,wJ⟩⟩
 ·refine List.nodup_append.2 ⟨h3,by simp,fun a ha b hb oq=>?_⟩
  rw[List.mem_singleton.1 hb]at oq
  have:=(h4 a ha).2
  rw[oq]at this
  simp only at this
  omega
 ·rcases List.mem_append.1 hi with hi|hi
  ·have:=h4 i hi;exact⟨this.1,by omega⟩
  ·rw[List.mem_singleton.1 hi];exact⟨rfl,Nr⟩
theorem LZ.add {g:Rows} {o:Id} {L:List (List Nat)} {nx k:Nat} {La:List Nat} (h:LZ g o L nx) (hk:L[k]? =some La) (j:Nat):∃rows id,g o=some ⟨true,1,rows⟩/\rows.length=L.length/\rows[k]? =some [.own id 0 La.length]/\g id=some ⟨true,1,La.map eN⟩/\id.site=320026008/\id.br<nx/\∀(g':Rows) (v' yu:Nat),nx<=v'->v'<yu->g' o=some ⟨true,1,rows.set k [.own ⟨320026008,v'⟩ 0 (La.length+1)]⟩->g' ⟨320026008,v'⟩=some ⟨true,1,La.map eN++[[.int .i64 (j:Int)]]⟩->(∀i:Id,i.site=320026008->i.br<nx->(i=id)=False->g' i=g i)->LZ g' o (L.set k (La++[j])) yu:=by
 obtain⟨rows,ids,h1,h2,h3,h4,h5,h6⟩:=h
 have kM:k<L.length:=(List.getElem?_eq_some_iff.1 hk).1
 have WD:=la hk kM
 obtain⟨cs,ic,dz,R9,Gq,so⟩:=h2.Uw Ra h3 k kM
 rw[WD]at R9
 obtain⟨id,rfl,q1,rfl⟩:=R9
 have hid:=h4 id (Gq id (by simp))
 refine⟨rows,id,h1,h2.len,dz,q1,hid.1,hid.2,fun g' v' yu hv wJ r1 r2 r3=>?_⟩
 obtain⟨EW,s1,s2,s3⟩:=so g' [.own ⟨320026008,v'⟩ 0 (La.length+1)] (La++[j]) [⟨320026008,v'⟩] ⟨_,by simp,by rw[r2];simp[eN],rfl⟩ (fun i hi Vt=>r3 i (h4 i hi).1 (h4 i hi).2 (by
  simp only[eq_iff_iff,iff_false];rintro rfl;exact Vt (by simp))) (by simp) fun i hi hc=>by
   rw[List.mem_singleton.1 hi]at hc
   have:=(h4 _ hc).2
   simp only at this
   omega
 refine⟨_,EW,r1,s1,s2,fun i hi=>?_,h5,by omega⟩
 rcases s3 i hi with h|h
 ·rw[List.mem_singleton.1 h];exact⟨rfl,wJ⟩
 ·have:=h4 i h;exact⟨this.1,by omega⟩
def mB (G:Nat->Id) (n k:Nat):List (List AV):=(List.range n).map fun i=>[if i<k then .ptr (G i) 0 0 else .il]
theorem nf (G:Nat->Id) (n k:Nat):(mB G n k).length=n:=by simp[mB]
theorem IJ (G:Nat->Id) (n:Nat):List.replicate n [AV.il]=mB G n 0:=by
 refine List.ext_getElem? fun i=>?_
 by_cases h:i<n
 ·rw[List.getElem?_replicate,if_pos h];simp[mB,h]
 ·rw[List.getElem?_eq_none (by simp;omega),List.getElem?_eq_none (by rw[nf];omega)]
theorem xH {G:Nat->Id} {n i:Nat} (h:i<n):(mB G n n)[i]? =some [.ptr (G i) 0 0]:=by simp[mB,h]
theorem LB {G:Nat->Id} {n k:Nat} (h:k<n):(mB G n k).set k [.ptr (G k) 0 0]=mB G n (k+1):=by
 refine List.ext_getElem? fun i=>?_
 rw[List.getElem?_set,nf]
 by_cases hi:k=i
 ·subst hi;rw[if_pos rfl,if_pos h];simp[mB,h]
 ·rw[if_neg hi]
  by_cases fI:i<n
  ·simp only[mB,List.getElem?_map,List.getElem?_range fI,Option.map_some]
   by_cases u7:i<k
   ·rw[if_pos u7,if_pos (by omega)]
   ·rw[if_neg u7,if_neg (by omega)]
  ·rw[List.getElem?_eq_none (by rw[nf];omega),List.getElem?_eq_none (by rw[nf];omega)]
end Go.Proofs.YtgoljkjaameagaaGreat.V

namespace Go.Proofs.YtgoljkjaameagaaGreat.V
open Go.RowKit
attribute [local irreducible] ek wpOps fK Call
attribute [local go_sem] aI fw eH fE fD dd upd cm K.av cG AV.cells AV.cell rowOf rowsOf part ld rowAt bL bY dx dO gz bE cW dY fC eY dj dS cU cR dG dH bH aZ cJ bG cL cK dQ dU dR cI bJ cV dP bF aL cP cz gy bq cF bI aW dq bm dy AV.undef bw bz dJ dM dD dI cE dX ea cq dW dV cN cQ List.getD_cons_zero List.getD_cons_succ List.getD_nil List.all_cons List.all_nil Bool.and_true Bool.true_and Bool.and_self Bool.not_true Bool.not_false Option.map_some Option.map_none Option.bind_some Option.bind_none List.length_cons List.length_nil List.take_succ_cons List.take_zero List.take_nil List.drop_succ_cons List.drop_zero List.drop_nil List.head?_cons List.map_cons List.map_nil List.getElem?_cons_zero List.getElem?_cons_succ List.cons_append List.nil_append List.append_nil List.length_map List.set_cons_zero List.set_cons_succ Nat.reduceMul eq_self Int.toNat_natCast Int.natCast_nonneg and_self true_and and_true decide_true decide_false Bool.false_eq_true Nat.zero_add Nat.add_zero List.contains_cons List.contains_nil Bool.or_false Bool.false_or beq_self_eq_true Nat.reduceBEq ne_eq not_true_eq_false not_false_eq_true Id.mk.injEq false_and and_false Nat.reduceLT Int.reduceLE Int.reduceLT Int.reduceToNat Int.reduceNeg Int.reduceAdd Nat.le_refl List.length_append beq_true beq_false Bool.not_eq_eq_eq_not or_false false_or dK aq au aH bf bt bZ aU bh aT bc cH bx
theorem gO {o:Id} {a:Nat} (h:o.site=a) {b v:Nat} (oq:(a==b)=false):(o=⟨b,v⟩)=False/\((⟨b,v⟩:Id)=o)=False:=by
 have h1:=AR h (v:=v) oq
 refine⟨h1,?_⟩
 simp only[eq_iff_iff,iff_false]at h1 ⊢
 exact fun h=>h1 h.symm
theorem wz (cnt:Nat) (Al:1<=cnt) (hn:cnt<=1048576) (bs:List PB) (hb:∀b∈bs,b.a<cnt/\b.b<cnt) (od:bs.length<=1048576):aw Tryz.prog 320 [.int .i64 cnt,.sl (bs.map aD)] (.sl ((fQ cnt (eJ bs)).map Be)):=by
 intro n0
 refine DK PU rfl fun hl=>?_
 try simp only[q]
 clear hl
 have jO:(0:Int)<=(cnt:Int):=by omega
 have qi:(cnt:Int)<=((16777216:Nat):Int):=by omega
 obtain⟨G,hG⟩:∃G:Nat->Id,G=fun k=>⟨320005004,n0+3+4*k+2⟩:=⟨_,rfl⟩
 have U7:∀k,(G k).site=320005004:=fun k=>by rw[hG]
 have Wx:∀k,(G k).br=n0+3+4*k+2:=fun k=>by rw[hG]
 have U4:∀i j,i≠j->(G i=G j)=False:=fun i j h=>by
  simp only[eq_iff_iff,iff_false]
  intro he
  have h1:=Wx i
  rw[he,Wx j]at h1
  omega
 have MV:∀i s v,(320005004==s)=false->(G i=⟨s,v⟩)=False:=fun i s v h=>AR (U7 i) h
 have hz:=IJ G cnt
 (try((repeat(revert hN;revert N;apply Pn.out));refine wk (tw @jO (tw @qi (tw @Int.le_refl @hz))) ?_;(repeat(refine Pn.mk ?_;intro N hN))))
 refine aX (fun n env st=>∃k:Nat,n=(cnt)-k/\k<=(cnt)/\env 21=.int .i64 (k:Int)/\st.get ⟨320001001,n0+1⟩=some ⟨true,1,mB G cnt k⟩/\(st.next=n0+3+4*k/\∀j:Nat,j<k->st.get (G j)=some ⟨true,2,[[.il,.int .i64 (j:Int)]]⟩)) (cnt) ⟨0,by omega,by omega,sl @hz,sl @hz,⟨rfl,fun j hj=>by omega⟩⟩ ?_
 rintro n_a env_a st_a ⟨k,rfl,ale,a21,ag0,kC⟩ dC
 have a0:=dC 0 (by kernel_rfl);have a1:=dC 1 (by kernel_rfl);have a5:=dC 5 (by kernel_rfl);have PE:=dC 19 (by kernel_rfl);have a20:=dC 20 (by kernel_rfl)
 simp only[go_sem, ↓reduceIte,Nat.reduceEqDiff,Nat.reduceAdd,Nat.reduceSub,Nat.reduceLeDiff,reduceCtorEq,hz]at a0 a1 a5 PE a20
 clear dC
 obtain⟨kC,nq⟩:=kC
 by_cases hk:(k:Int)<(cnt:Int)
 ·have cD:∀{e:Env} {gg:Rows} {nx:Nat},(e 21=.int .i64 (IntKind.i64.wrap ((k:Int)+1)))->(gg ⟨320001001,n0+1⟩=some ⟨true,1,mB G cnt (k+1)⟩)->(nx=n0+3+4*(k+1)/\∀j:Nat,j<(k+1)->gg (G j)=some ⟨true,2,[[.il,.int .i64 (j:Int)]]⟩)->∃m0,m0<(cnt)-k/\∃k:Nat,m0=(cnt)-k/\k<=(cnt)/\e 21=.int .i64 (k:Int)/\gg ⟨320001001,n0+1⟩=some ⟨true,1,mB G cnt k⟩/\(nx=n0+3+4*k/\∀j:Nat,j<k->gg (G j)=some ⟨true,2,[[.il,.int .i64 (j:Int)]]⟩):=fun x1 x2 x3=>⟨_,by omega,k+1,rfl,by omega,(by rw[x1,az (by omega)]),x2,x3⟩
  have fm:k<cnt:=by omega
  have tl:=nf G cnt k
  have eC:=LB (G:=G) fm
  have eU:(mB G cnt k)[k]? =some [.il]:=by simp[mB,fm]
  have U5:(⟨320005004,st_a.next+1+1⟩:Id)=G k:=by rw[hG,kC]
  have hGf:∀j,j<k->(G j=G k)=False:=fun j hj=>U4 j k (by omega)
  have Ad:∀j,(G j=(⟨320001001,n0+1⟩:Id))=False:=fun j=>MV j _ _ (by decide)
  have EA:∀j,((⟨320001001,n0+1⟩:Id)=G j)=False:=fun j=>by
   have:=Ad j
   simp only[eq_iff_iff,iff_false]at this ⊢
   exact fun h=>this h.symm
  (try((repeat(revert hN;revert N;apply Pn.out));refine wk (tw @a21 (tw @ag0 (tw @a0 (tw @a1 (tw @a5 (tw @PE (tw @a20 (tw @hk (tw @tl (tw @U5 (tw @Ad (tw @EA (tw @eC @eU))))))))))))) ?_;(repeat(refine Pn.mk ?_;intro N hN))))
  refine cD ?_ ?_ (by
   refine⟨by(try dsimp only)<;>omega,fun j hj=>?_⟩
   by_cases yY:j=k
   ·subst yY;simp only[go_sem, ↓reduceIte,Nat.reduceEqDiff,Nat.reduceAdd,Nat.reduceSub,Nat.reduceLeDiff,reduceCtorEq,U5,Ad,EA]
   ·have hold:=nq j (by omega)
    have ij:=hGf j (by omega)
    simp only[go_sem, ↓reduceIte,Nat.reduceEqDiff,Nat.reduceAdd,Nat.reduceSub,Nat.reduceLeDiff,reduceCtorEq,U5,Ad,EA,ij,hold])
  all_goals simp only[go_sem, ↓reduceIte,Nat.reduceEqDiff,Nat.reduceAdd,Nat.reduceSub,Nat.reduceLeDiff,reduceCtorEq,a21,ag0,a0,a1,a5,PE,a20,U5,Ad,EA,eC]
 have kM:cnt=k:=by omega
 subst kM
 (try((repeat(revert hN;revert N;apply Pn.out));refine wk (tw @a21 (tw @ag0 (tw @a0 (tw @a1 (tw @a5 (tw @PE (tw @a20 @hk))))))) ?_;(repeat(refine Pn.mk ?_;intro N hN))))
 refine aX (fun n env st=>∃i:Nat,n=(bs.length)-i/\i<=(bs.length)/\env 33=.int .i64 (i:Int)/\st.get ⟨320001001,n0+1⟩=some ⟨true,1,mB G cnt cnt⟩/\(n0+3+4*cnt<=st.next)/\(∃px,nU cnt px (eJ (bs.take i))/\uB st.get G cnt px)) (bs.length) ⟨0,by omega,by omega,sl (tw @a21 (tw @ag0 (tw @a0 (tw @a1 (tw @a5 (tw @PE @a20)))))),sl (tw @a21 (tw @ag0 (tw @a0 (tw @a1 (tw @a5 (tw @PE @a20)))))),(by(try dsimp only);omega),⟨fun _=>none,nU.start cnt,nq⟩⟩ ?_
 rintro n_b env_b st_b ⟨i,rfl,ble,uD,bg0,bI0,bI1⟩ eX
 have b0:=eX 0 (by kernel_rfl);have b1:=eX 1 (by kernel_rfl);have b5:=eX 5 (by kernel_rfl);have rX:=eX 31 (by kernel_rfl);have pI:=eX 32 (by kernel_rfl)
 simp only[go_sem, ↓reduceIte,Nat.reduceEqDiff,Nat.reduceAdd,Nat.reduceSub,Nat.reduceLeDiff,reduceCtorEq,a21,ag0,a0,a1,a5,PE,a20]at b0 b1 b5 rX pI
 clear eX
 obtain⟨px,Me,U6⟩:=bI1
 have tl:=nf G cnt cnt
 have Td:∀j v,(G j=(⟨320009002,v⟩:Id))=False:=fun j v=>MV j _ v (by decide)
 have Ad:∀j v,(G j=(⟨320001001,v⟩:Id))=False:=fun j v=>MV j _ v (by decide)
 have EA:∀j v,((⟨320001001,v⟩:Id)=G j)=False:=fun j v=>by
  have:=Ad j v
  simp only[eq_iff_iff,iff_false]at this ⊢
  exact fun h=>this h.symm
 have Wv:∀j,j<cnt->(G j).br<st_b.next:=fun j hj=>by rw[Wx];omega
 by_cases hi:(i:Int)<(bs.length:Int)
 ·have fh:∀{e:Env} {gg:Rows} {nx:Nat},(e 33=.int .i64 (IntKind.i64.wrap ((i:Int)+1)))->(gg ⟨320001001,n0+1⟩=some ⟨true,1,mB G cnt cnt⟩)->(n0+3+4*cnt<=nx)->(∃px,nU cnt px (eJ (bs.take (i+1)))/\uB gg G cnt px)->∃m0,m0<(bs.length)-i/\∃i:Nat,m0=(bs.length)-i/\i<=(bs.length)/\e 33=.int .i64 (i:Int)/\gg ⟨320001001,n0+1⟩=some ⟨true,1,mB G cnt cnt⟩/\(n0+3+4*cnt<=nx)/\(∃px,nU cnt px (eJ (bs.take i))/\uB gg G cnt px):=fun x1 x2 x3 x4=>⟨_,by omega,i+1,rfl,by omega,(by rw[x1,az (by omega)]),x2,x3,x4⟩
  have fI:i<bs.length:=by omega
  have jm:(bs.map aD)[i]? =some (aD bs[i]):=by simp[fI]
  have HF:=hb _ (List.getElem_mem fI)
  have lR:bs.take (i+1)=bs.take i++[bs[i]]:=List.take_succ_eq_append_getElem fI
  have l6:eJ (bs.take (i+1))=eZ (eJ (bs.take i)) bs[i]:=by rw[lR,wQ]
  have hL:=uk (bs.take i)
  generalize eJ (bs.take i)=L at *
  generalize bs[i]=b at *
  have gA:=xH (G:=G) HF.1
  have gB:=xH (G:=G) HF.2
  have gQ:(b.a:Int)<(cnt:Int):=by omega
  have fJ:(b.b:Int)<(cnt:Int):=by omega
  (try((repeat(revert hN;revert N;apply Pn.out));refine wk (tw @uD (tw @bg0 (tw @b0 (tw @b1 (tw @b5 (tw @rX (tw @pI (tw @hi (tw @jm (tw @aD.eq_1 (tw @gA (tw @gB (tw @gQ (tw @fJ @tl)))))))))))))) ?_;(repeat(refine Pn.mk ?_;intro N hN))))
  refine FR (fun e s=>e 0=.int .i64 cnt/\e 1=.sl (bs.map aD)/\e 5=.own ⟨320001001,n0+1⟩ 0 cnt/\e 31=.sl (bs.map aD)/\e 32=.int .i64 bs.length/\e 33=.int .i64 i/\e 9=.ptr (G (L b.a)) 0 0/\e 10=.ptr (G (L b.b)) 0 0/\(∀j:Id,j.br<st_b.next->s.get j=st_b.get j)/\st_b.next<=s.next) ?_ ?_
  ·rintro e1 s1 ⟨m0,m1,m5,m31,m32,m33,m9,m10,mf,mn⟩
   refine hN _ _ ?_
   clear hN N
   have mG:uB s1.get G cnt px:=U6.frame fun k hk=>mf _ (Wv k hk)
   have mt:=(mf ⟨320001001,n0+1⟩ (by(try dsimp only);omega)).trans bg0
   have Xg:L b.a<cnt:=Nat.lt_of_le_of_lt (hL.le _) HF.1
   have TJ:L b.b<cnt:=Nat.lt_of_le_of_lt (hL.le _) HF.2
   have ra:=mG _ Xg
   have rb:=mG _ TJ
   rw[lZ (Me.root hL Xg (hL.idem _))]at ra
   rw[lZ (Me.root hL TJ (hL.idem _))]at rb
   have put:∀(g':Rows) (lo hi:Nat),hi<cnt->g' (G hi)=some ⟨true,2,[[.ptr (G lo) 0 0,.int .i64 (hi:Int)]]⟩->(∀k,k≠hi->k<cnt->g' (G k)=s1.get (G k))->uB g' G cnt (fun k=>if k=hi then some lo else px k):=fun g' lo hi _ h1 h2 k hk=>by
    by_cases Mc:k=hi
    ·subst Mc;rw[h1,ud (j:=lo) (if_pos rfl)]
    ·rw[h2 k Mc hk,mG k hk]
     unfold tp
     simp only[if_neg Mc]
   rcases Nat.lt_trichotomy (L b.a) (L b.b)with eo|heq|eo
   ·have QH:(L b.a:Int)<(L b.b:Int):=by omega
    have hj:=Me.join hL b (by omega)
    rw[Nat.max_eq_right (by omega),Nat.min_eq_left (by omega),<-l6]at hj
    (try((repeat(revert hN;revert N;apply Pn.out));refine wk (tw @m0 (tw @m1 (tw @m5 (tw @m31 (tw @m32 (tw @m33 (tw @m9 (tw @m10 (tw @ra (tw @rb @QH)))))))))) ?_;(repeat(refine Pn.mk ?_;intro N hN))))
    refine fh ?_ ?_ (by(try dsimp only);omega) (⟨_,hj,put _ _ _ TJ (sd @Nat.zero_add) (fun k hk _=>by
     have ij:=U4 k _ hk
     simp only[go_sem, ↓reduceIte,Nat.reduceEqDiff,Nat.reduceAdd,Nat.reduceSub,Nat.reduceLeDiff,reduceCtorEq,ij])⟩)
    all_goals simp only[go_sem, ↓reduceIte,Nat.reduceEqDiff,Nat.reduceAdd,Nat.reduceSub,Nat.reduceLeDiff,reduceCtorEq,m0,m1,m5,m31,m32,m33,mt,Ad,EA]
   ·have Al:¬(L b.a:Int)<(L b.b:Int):=by omega
    have Kk:¬(L b.b:Int)<(L b.a:Int):=by omega
    have Nl:=Au heq
    rw[Nl]at l6
    (try((repeat(revert hN;revert N;apply Pn.out));refine wk (tw @m0 (tw @m1 (tw @m5 (tw @m31 (tw @m32 (tw @m33 (tw @m9 (tw @m10 (tw @ra (tw @rb (tw @Al @Kk))))))))))) ?_;(repeat(refine Pn.mk ?_;intro N hN))))
    refine fh ?_ ?_ (by(try dsimp only);omega) (⟨_,l6▸Me,mG.frame fun k hk=>rfl⟩)
    all_goals simp only[go_sem, ↓reduceIte,Nat.reduceEqDiff,Nat.reduceAdd,Nat.reduceSub,Nat.reduceLeDiff,reduceCtorEq,m0,m1,m5,m31,m32,m33,mt]
   ·have QH:(L b.b:Int)<(L b.a:Int):=by omega
    have Al:¬(L b.a:Int)<(L b.b:Int):=by omega
    have hj:=Me.join hL b (by omega)
    rw[Nat.max_eq_left (by omega),Nat.min_eq_right (by omega),<-l6]at hj
    (try((repeat(revert hN;revert N;apply Pn.out));refine wk (tw @m0 (tw @m1 (tw @m5 (tw @m31 (tw @m32 (tw @m33 (tw @m9 (tw @m10 (tw @ra (tw @rb (tw @QH @Al))))))))))) ?_;(repeat(refine Pn.mk ?_;intro N hN))))
    refine fh ?_ ?_ (by(try dsimp only);omega) (⟨_,hj,put _ _ _ Xg (sd @Nat.zero_add) (fun k hk _=>by
     have ij:=U4 k _ hk
     simp only[go_sem, ↓reduceIte,Nat.reduceEqDiff,Nat.reduceAdd,Nat.reduceSub,Nat.reduceLeDiff,reduceCtorEq,ij])⟩)
    all_goals simp only[go_sem, ↓reduceIte,Nat.reduceEqDiff,Nat.reduceAdd,Nat.reduceSub,Nat.reduceLeDiff,reduceCtorEq,m0,m1,m5,m31,m32,m33,mt,Ad,EA]
  ·intro N hN
   refine fj ?_ ?_<;>(try((repeat(revert hN;revert N;apply Pn.out));refine wk (tw @uD (tw @bg0 (tw @b0 (tw @b1 (tw @b5 (tw @rX (tw @pI (tw @hi (tw @jm (tw @aD.eq_1 (tw @gA (tw @gB (tw @gQ (tw @fJ @tl)))))))))))))) ?_;(repeat(refine Pn.mk ?_;intro N hN))))<;>(try refine fj ?_ ?_)<;>(try((repeat(revert hN;revert N;apply Pn.out));refine wk (tw @uD (tw @bg0 (tw @b0 (tw @b1 (tw @b5 (tw @rX (tw @pI (tw @hi (tw @jm (tw @aD.eq_1 (tw @gA (tw @gB (tw @gQ (tw @fJ @tl)))))))))))))) ?_;(repeat(refine Pn.mk ?_;intro N hN))))<;>(try refine fj ?_ ?_)<;>(try((repeat(revert hN;revert N;apply Pn.out));refine wk (tw @uD (tw @bg0 (tw @b0 (tw @b1 (tw @b5 (tw @rX (tw @pI (tw @hi (tw @jm (tw @aD.eq_1 (tw @gA (tw @gB (tw @gQ (tw @fJ @tl)))))))))))))) ?_;(repeat(refine Pn.mk ?_;intro N hN))))
   all_goals
    refine .inr (aJ _ _ _ _ _ (fun r σ1 hq=>?_) (zX G cnt px L Me b.a HF.1 _ (U6.frame fun k hk=>sd @Td)))
    obtain⟨g1,x1⟩:=σ1
    obtain⟨rfl,Bh,M8⟩:=hq
    (try dsimp only at Bh M8)
    subst Bh
    refine hN _ _ ?_
    clear hN N
    (try((repeat(revert hN;revert N;apply Pn.out));refine wk (tw @uD (tw @bg0 (tw @b0 (tw @b1 (tw @b5 (tw @rX (tw @pI (tw @hi (tw @jm (tw @aD.eq_1 (tw @gA (tw @gB (tw @gQ (tw @fJ @tl)))))))))))))) ?_;(repeat(refine Pn.mk ?_;intro N hN))))
    refine .inr (aJ _ _ _ _ _ (fun r σ1 hq=>?_) (zX G cnt px L Me b.b HF.2 _ (U6.frame fun k hk=>sd @Td)))
    obtain⟨g1,x2⟩:=σ1
    obtain⟨rfl,Bh,nA⟩:=hq
    (try dsimp only at Bh nA)
    subst Bh
    refine hN _ _ ?_
    clear hN N
    (try((repeat(revert hN;revert N;apply Pn.out));refine wk (tw @uD (tw @bg0 (tw @b0 (tw @b1 (tw @b5 (tw @rX (tw @pI (tw @hi (tw @jm (tw @aD.eq_1 (tw @gA (tw @gB (tw @gQ (tw @fJ @tl)))))))))))))) ?_;(repeat(refine Pn.mk ?_;intro N hN))))
    exact⟨sd (tw @uD (tw @bg0 (tw @b0 (tw @b1 (tw @b5 (tw @rX @pI)))))),sd (tw @uD (tw @bg0 (tw @b0 (tw @b1 (tw @b5 (tw @rX @pI)))))),sd (tw @uD (tw @bg0 (tw @b0 (tw @b1 (tw @b5 (tw @rX @pI)))))),sd (tw @uD (tw @bg0 (tw @b0 (tw @b1 (tw @b5 (tw @rX @pI)))))),sd (tw @uD (tw @bg0 (tw @b0 (tw @b1 (tw @b5 (tw @rX @pI)))))),sd (tw @uD (tw @bg0 (tw @b0 (tw @b1 (tw @b5 (tw @rX @pI)))))),sd (tw @uD (tw @bg0 (tw @b0 (tw @b1 (tw @b5 (tw @rX @pI)))))),sd (tw @uD (tw @bg0 (tw @b0 (tw @b1 (tw @b5 (tw @rX @pI)))))),fun j hj=>by
     have hv:=dr hj
     simp only[go_sem, ↓reduceIte,Nat.reduceEqDiff,Nat.reduceAdd,Nat.reduceSub,Nat.reduceLeDiff,reduceCtorEq,hv],by(try dsimp only);omega⟩
 have mj:i=bs.length:=by omega
 subst mj
 rw[List.take_length]at Me
 have hL:=uk bs
 generalize eJ bs=L at *
 (try((repeat(revert hN;revert N;apply Pn.out));refine wk (tw @uD (tw @bg0 (tw @b0 (tw @b1 (tw @b5 (tw @rX (tw @pI (tw @hi @tl)))))))) ?_;(repeat(refine Pn.mk ?_;intro N hN))))
 have l0:lp 0 L=[]:=rfl
 have oS:(none:Option Nat).isSome=false:=rfl
 have oT:∀a:Nat,(some a).isSome=true:=fun _=>rfl
 refine aX (fun n env st=>∃x:Nat,n=(cnt)-x/\x<=(cnt)/\env 81=.int .i64 (x:Int)/\st.get ⟨320001001,n0+1⟩=some ⟨true,1,mB G cnt cnt⟩/\st.get ⟨320017000,st_b.next+1+1⟩=some ⟨true,mI.mz,lp x L⟩/\(st_b.next+3<=st.next/\uB st.get G cnt px)/\((x=0/\env 11=.cj)∨∃o:Id,env 11=.own o 0 (leads x L).length/\LZ st.get o (jT x L) st.next)) (cnt) ⟨0,by omega,by omega,sl (tw @uD (tw @bg0 (tw @b0 (tw @b1 (tw @b5 (tw @rX (tw @pI @l0))))))),sl (tw @uD (tw @bg0 (tw @b0 (tw @b1 (tw @b5 (tw @rX (tw @pI @l0))))))),sl (tw @uD (tw @bg0 (tw @b0 (tw @b1 (tw @b5 (tw @rX (tw @pI @l0))))))),⟨by(try dsimp only);omega,U6.frame fun k hk=>by(have ij:=MV k 320017000 (st_b.next+1+1) (by decide));simp only[go_sem, ↓reduceIte,Nat.reduceEqDiff,Nat.reduceAdd,Nat.reduceSub,Nat.reduceLeDiff,reduceCtorEq,ij]⟩,.inl ⟨rfl,sd @Nat.zero_add⟩⟩ ?_
 rintro n_c env_c st_c ⟨x,rfl,cle,c81,cg0,cg1,cI0,cI1⟩ iO
 have qO:=iO 12 (by kernel_rfl);have Mz:=iO 79 (by kernel_rfl);have MA:=iO 80 (by kernel_rfl)
 simp only[go_sem, ↓reduceIte,Nat.reduceEqDiff,Nat.reduceAdd,Nat.reduceSub,Nat.reduceLeDiff,reduceCtorEq,uD,bg0,b0,b1,b5,rX,pI,l0]at qO Mz MA
 clear iO
 obtain⟨pN,SL⟩:=cI0
 have Qm:∀j v,(G j=(⟨320017000,v⟩:Id))=False:=fun j v=>MV j _ v (by decide)
 have Qi:∀j v,(G j=(⟨320025002,v⟩:Id))=False:=fun j v=>MV j _ v (by decide)
 have Qk:∀j v,(G j=(⟨320025001,v⟩:Id))=False:=fun j v=>MV j _ v (by decide)
 have Ql:∀j v,(G j=(⟨320026007,v⟩:Id))=False:=fun j v=>MV j _ v (by decide)
 have Qj:∀j v,(G j=(⟨320026008,v⟩:Id))=False:=fun j v=>MV j _ v (by decide)
 by_cases hx:(x:Int)<(cnt:Int)
 ·have gN:∀{e:Env} {gg:Rows} {nx:Nat},(e 81=.int .i64 (IntKind.i64.wrap ((x:Int)+1)))->(gg ⟨320001001,n0+1⟩=some ⟨true,1,mB G cnt cnt⟩)->(gg ⟨320017000,st_b.next+1+1⟩=some ⟨true,mI.mz,lp (x+1) L⟩)->(st_b.next+3<=nx/\uB gg G cnt px)->(((x+1)=0/\e 11=.cj)∨∃o:Id,e 11=.own o 0 (leads (x+1) L).length/\LZ gg o (jT (x+1) L) nx)->∃m0,m0<(cnt)-x/\∃x:Nat,m0=(cnt)-x/\x<=(cnt)/\e 81=.int .i64 (x:Int)/\gg ⟨320001001,n0+1⟩=some ⟨true,1,mB G cnt cnt⟩/\gg ⟨320017000,st_b.next+1+1⟩=some ⟨true,mI.mz,lp x L⟩/\(st_b.next+3<=nx/\uB gg G cnt px)/\((x=0/\e 11=.cj)∨∃o:Id,e 11=.own o 0 (leads x L).length/\LZ gg o (jT x L) nx):=fun x1 x2 x3 x4 x5=>⟨_,by omega,x+1,rfl,by omega,(by rw[x1,az (by omega)]),x2,x3,x4,x5⟩
  have Sw:x<cnt:=by omega
  have gX:=xH (G:=G) Sw
  have hlx:L x<cnt:=Nat.lt_of_le_of_lt (hL.le _) Sw
  have ra:=SL _ hlx
  rw[lZ (Me.root hL hlx (hL.idem _))]at ra
  have gR:=jW x L
  (try((repeat(revert hN;revert N;apply Pn.out));refine wk (tw @c81 (tw @cg0 (tw @cg1 (tw @qO (tw @Mz (tw @MA (tw @hx (tw @gX @tl)))))))) ?_;(repeat(refine Pn.mk ?_;intro N hN))))
  refine .inr (aJ _ _ _ _ _ (fun r σ1 hq=>?_) (zX G cnt px L Me x Sw _ (SL.frame fun k hk=>sd @Nat.zero_add)))
  obtain⟨g1,x1⟩:=σ1
  obtain⟨rfl,Bh,M8⟩:=hq
  (try dsimp only at Bh M8)
  subst Bh
  refine hN _ _ ?_
  clear hN N
  by_cases hr:L x=x
  ·rw[hr]at ra ⊢
   have lj:=H8 hr
   have Vr:(leads (x+1) L).length=(leads x L).length+1:=by rw[gY,if_pos hr];simp
   have Sr:=E7 hr
   have Vl:=Ew hL hr
   rcases cI1 with⟨rfl,oj⟩|⟨o,oj,cS⟩
   ·have XB:lp 1 L=[[.int .i64 ((0:Nat):Int),.int .i64 ((0:Nat):Int)]]:=Sr
    (try((repeat(revert hN;revert N;apply Pn.out));refine wk (tw @c81 (tw @cg0 (tw @cg1 (tw @qO (tw @Mz (tw @MA (tw @oj (tw @ra (tw @lj (tw @l0 (tw @oS (tw @oT (tw @Bool.not_false @Bool.not_true))))))))))))) ?_;(repeat(refine Pn.mk ?_;intro N hN))))
    refine gN ?_ ?_ ?_ (by(try dsimp only);exact⟨by omega,SL.frame fun k hk=>sd (tw @Qm (tw @Qi (tw @Qj (tw @Qk @Ql))))⟩) (.inr ⟨⟨320025002,x1+1+1+1+1⟩,by simp only[go_sem, ↓reduceIte,Nat.reduceEqDiff,Nat.reduceAdd,Nat.reduceSub,Nat.reduceLeDiff,reduceCtorEq,Vr];rfl,by rw[Vl];exact MR (v':=x1+1+1+1+1+1) (sd @Nat.zero_add) (sd @eN.eq_1) (by(try dsimp only);omega) (by(try dsimp only);omega)⟩)
    all_goals simp only[go_sem, ↓reduceIte,Nat.reduceEqDiff,Nat.reduceAdd,Nat.reduceSub,Nat.reduceLeDiff,reduceCtorEq,c81,cg0,cg1,qO,Mz,MA,XB]
   ·obtain⟨rows,uL,pP,lh⟩:=cS.new x
    rw[rf]at pP
    have Cl:o.site=320025002:=by obtain⟨_,_,_,_,_,_,h,_⟩:=cS;exact h
    have pO:o.br<x1:=by obtain⟨_,_,_,_,_,_,_,h⟩:=cS;omega
    have rz:=dr pO
    have TW:=gO (o:=o) Cl (b:=320017000) (v:=st_b.next+1+1) (by decide)
    have Sj:=gO (o:=o) Cl (b:=320001001) (v:=n0+1) (by decide)
    have Qn:∀k,(G k=o)=False:=fun k=>by simp only[eq_iff_iff,iff_false];intro h;have h1:=U7 k;rw[h,Cl]at h1;cases h1
    have s6:(rows++[[AV.cj]])[(leads x L).length]? =some [.cj]:=by rw[<-pP];simp
    have u9:∀a:List AV,(rows++[[AV.cj]]).set (leads x L).length a=rows++[a]:=fun a=>by rw[<-pP];simp
    have e1:(leads x L).length+1<=16777216:=by omega
    have e2:((leads x L).length:Int)<(((leads x L).length+1:Nat):Int):=by omega
    (try((repeat(revert hN;revert N;apply Pn.out));refine wk (tw @c81 (tw @cg0 (tw @cg1 (tw @qO (tw @Mz (tw @MA (tw @oj (tw @ra (tw @lj (tw @uL (tw @pP (tw @rz (tw @TW (tw @s6 (tw @u9 (tw @e1 (tw @e2 (tw @oS (tw @oT (tw @Bool.not_false @Bool.not_true)))))))))))))))))))) ?_;(repeat(refine Pn.mk ?_;intro N hN))))
    refine gN ?_ ?_ ?_ (by(try dsimp only);exact⟨by omega,SL.frame fun k hk=>sd (tw @Qm (tw @Qi (tw @Qj (tw @Qk (tw @Ql @Qn)))))⟩) (.inr ⟨⟨320025002,x1+1+1+1+1⟩,sd @Vr,by rw[Vl];exact lh _ _ (x1+1+1+1+1+1) _ (by omega) (by(try dsimp only);omega) (by(try dsimp only);omega) (sd @u9) (sd @eN.eq_1) (fun j hj hv=>by
     have q1:=dr (i:=j) (n:=x1) (by omega)
     have q2:=gO hj (b:=320017000) (v:=st_b.next+1+1) (by decide)
     have q3:(j=o)=False:=by simp only[eq_iff_iff,iff_false];intro h;rw[h,Cl]at hj;cases hj
     simp only[go_sem, ↓reduceIte,Nat.reduceEqDiff,Nat.reduceAdd,Nat.reduceSub,Nat.reduceLeDiff,reduceCtorEq,q1,q2,q3])⟩)
    all_goals simp only[go_sem, ↓reduceIte,Nat.reduceEqDiff,Nat.reduceAdd,Nat.reduceSub,Nat.reduceLeDiff,reduceCtorEq,c81,cg0,cg1,qO,Mz,MA,Sr,rz,TW,Sj]
  ·obtain⟨lj,Dz,eo⟩:=za hL hr
   obtain⟨TD,Vl⟩:=Ey hL hr
   have Vr:(leads (x+1) L).length=(leads x L).length:=by rw[gY,if_neg hr];simp
   have Nl:=E6 hr
   rcases cI1 with⟨rfl,oj⟩|⟨o,oj,cS⟩
   ·exact absurd (Nat.le_zero.1 (hL.le 0)) hr
   ·obtain⟨rows,id,uL,pP,hrk,hid,Kg,hidv,WM⟩:=cS.add TD x
    rw[rf]at pP
    have Cl:o.site=320025002:=by obtain⟨_,_,_,_,_,_,h,_⟩:=cS;exact h
    have pO:o.br<x1:=by obtain⟨_,_,_,_,_,_,_,h⟩:=cS;omega
    have rz:=dr pO
    have wJ:=dr (i:=id) (n:=x1) (by omega)
    have jm:(cu L x:Int)<((leads x L).length:Int):=by omega
    have TP:=CT x L (L x)
    have hma:((members x L (L x)).map eN).length=(members x L (L x)).length:=by simp
    have e1:(members x L (L x)).length+1<=16777216:=by omega
    have QN:(o=id)=False:=by simp only[eq_iff_iff,iff_false];rintro rfl;rw[Kg]at Cl;cases Cl
    have Ma:(id=o)=False:=by simp only[eq_iff_iff,iff_false];rintro rfl;rw[Kg]at Cl;cases Cl
    have TW:=gO (o:=o) Cl (b:=320017000) (v:=st_b.next+1+1) (by decide)
    have Sj:=gO (o:=o) Cl (b:=320001001) (v:=n0+1) (by decide)
    have hiM:=gO (o:=id) Kg (b:=320017000) (v:=st_b.next+1+1) (by decide)
    have hiT:=gO (o:=id) Kg (b:=320001001) (v:=n0+1) (by decide)
    have Qn:∀k,(G k=o)=False:=fun k=>by simp only[eq_iff_iff,iff_false];intro h;have h1:=U7 k;rw[h,Cl]at h1;cases h1
    have Ww:∀k,(G k=id)=False:=fun k=>by simp only[eq_iff_iff,iff_false];intro h;have h1:=U7 k;rw[h,Kg]at h1;cases h1
    (try((repeat(revert hN;revert N;apply Pn.out));refine wk (tw @c81 (tw @cg0 (tw @cg1 (tw @qO (tw @Mz (tw @MA (tw @oj (tw @ra (tw @lj (tw @Dz (tw @uL (tw @pP (tw @hrk (tw @hid (tw @rz (tw @wJ (tw @jm (tw @hma (tw @e1 (tw @QN (tw @Ma (tw @TW (tw @Sj (tw @hiM (tw @hiT (tw @oS (tw @oT (tw @Bool.not_false @Bool.not_true)))))))))))))))))))))))))))) ?_;(repeat(refine Pn.mk ?_;intro N hN))))
    refine gN ?_ ?_ ?_ (by(try dsimp only);exact⟨by omega,SL.frame fun k hk=>sd (tw @Qm (tw @Qi (tw @Qj (tw @Qk (tw @Ql (tw @Qn @Ww))))))⟩) (.inr ⟨o,sd (tw @Vr @oj),by rw[Vl];exact WM _ (x1+1+1) _ (by omega) (by(try dsimp only);omega) (sd @Nat.zero_add) (sd (tw @rz (tw @wJ (tw @QN @Ma)))) (fun j hj hv ni=>by
     have q1:=dr (i:=j) (n:=x1) (by omega)
     have q2:=gO hj (b:=320017000) (v:=st_b.next+1+1) (by decide)
     have q3:(j=o)=False:=by simp only[eq_iff_iff,iff_false];intro h;rw[h,Cl]at hj;cases hj
     simp only[go_sem, ↓reduceIte,Nat.reduceEqDiff,Nat.reduceAdd,Nat.reduceSub,Nat.reduceLeDiff,reduceCtorEq,q1,q2,q3,ni])⟩)
    all_goals simp only[go_sem, ↓reduceIte,Nat.reduceEqDiff,Nat.reduceAdd,Nat.reduceSub,Nat.reduceLeDiff,reduceCtorEq,c81,cg0,cg1,qO,Mz,MA,Nl,rz,wJ,TW,Sj,hiM,hiT]
 have XM:x=cnt:=by omega
 rcases cI1 with⟨h0,_⟩|⟨o,oj,rows,ids,uL,hR,_,_,_,_⟩
 ·omega
 have pP:=hR.len
 rw[rf]at pP
 (try((repeat(revert hN;revert N;apply Pn.out));refine wk (tw @c81 (tw @cg0 (tw @cg1 (tw @qO (tw @Mz (tw @MA (tw @hx (tw @oj @uL)))))))) ?_;(repeat(refine Pn.mk ?_;intro N hN))))
 refine xt (.inl rfl) (by simp only[go_sem, ↓reduceIte,Nat.reduceEqDiff,Nat.reduceAdd,Nat.reduceSub,Nat.reduceLeDiff,reduceCtorEq];rfl) ?_
 rw[sf uL (by omega) (rows':=(fQ cnt L).map Be) (by
  rw[List.drop_zero,List.take_of_length_le (by omega)]
  rw[XM]at hR;exact KL 3 hR)]
theorem LU (b:PB) (t:Int):aw Tryz.prog 323 [.agg (aD b),.dp [.int .i64 t]] (.bool (decide (b.s<t))):=by
 refine aw.body eK rfl fun hl n0=>?_
 clear hl
 (try((repeat(revert hN;revert N;apply Pn.out));refine wk @aD.eq_1 ?_;(repeat(refine Pn.mk ?_;intro N hN))))
 exact bp (b:=decide (b.s<t)) (.inl rfl) (sd @Nat.zero_add) rfl
theorem y6 (bs:List PB) (t:Int) (hl:bs.length<=1048576):aw Tryz.prog 335 [.sl (bs.map aD),.fn 323 [.dp [.int .i64 t]]] (.int .i64 (kF (fun b:PB=>decide (b.s<t)) bs)):=
 ui JM (show nv Tryz.prog 335=some (wM 335 3 true) by kernel_rfl) bs hl 323 _ _ (fun x _=>LU x t) fun g=>by simp only[aq,au,aT,Option.map_some]
theorem JH (bs:List PB) (hp:0<bs.length) (hl:bs.length<=1048576) (σ:ay):
  Call Tryz.prog 322 [.sl (bs.map aD)] σ fun r σ'=>∃o:Id,r=.own o 0 bs.length/\σ'.get o=some ⟨true,3,bs.map aD⟩/\σ.next<=o.br/\o.br<σ'.next/\∀i:Id,i.br<σ.next->σ'.get i=σ.get i:=by
 refine e6 eK rfl fun hl=>?_
 clear hl
 have hz:=all_map (l:=bs) Pv
 obtain⟨b,r,rfl⟩:∃b r,bs=b::r:=by
  cases bs with
  |nil=>simp at hp
  |cons b r=>exact⟨b,r,rfl⟩
 have gR:(List.map aD (b::r)).length=(b::r).length:=by simp
 have e1:r.length<=16777215:=by simp at hl;omega
 rw[List.map_cons]at hz gR ⊢
 (try((repeat(revert hN;revert N;apply Pn.out));refine wk (tw @hz (tw @gR @e1)) ?_;(repeat(refine Pn.mk ?_;intro N hN))))
 refine fe (.inl rfl) (vs:=[.own ⟨322003002,σ.next+1+1⟩ 0 (b::r).length]) (by simp only[fR,iK,go_sem, ↓reduceIte,Nat.reduceEqDiff,Nat.reduceAdd,Nat.reduceSub,Nat.reduceLeDiff,reduceCtorEq,List.length_cons]) ⟨⟨322003002,σ.next+1+1⟩,rfl,sd @Nat.zero_add,by(try dsimp only);omega,by(try dsimp only);omega,fun i hi=>?_⟩
 have hv:=dr hi
 simp only[go_sem, ↓reduceIte,Nat.reduceEqDiff,Nat.reduceAdd,Nat.reduceSub,Nat.reduceLeDiff,reduceCtorEq,hv]
theorem pz {t:Int} {bs:List PB} {j:Nat} (hj:j<bs.length):aV t (bs.take (j+1))=aV t (bs.take j)++if decide (bs[j].s<t)=true then[]else[bs[j]]:=by
 rw[uw t bs j hj]
 congr 1
 by_cases h:bs[j].s<t
 ·rw[if_neg (by omega),if_pos (decide_eq_true h)]
 ·rw[if_pos (by omega),if_neg (by simp only[decide_eq_true_eq];exact h)]
theorem uv {t:Int} {bs:List PB} (h:∀b∈bs,¬b.s<t):aV t bs=bs:=by
 unfold aV
 rw[List.filter_eq_self]
 intro b hb
 have:=h b hb
 exact decide_eq_true (by omega)
structure uA (t:Int) (bs:List PB) (j:Nat) (R:List PB):Prop where
 len:R.length=bs.length
 pre:R.take (aV t (bs.take j)).length=aV t (bs.take j)
 post:∀x,j<=x->R[x]? =bs[x]?
 lt:(aV t (bs.take j)).length<j
theorem uA.start {t:Int} {bs:List PB} {i:Nat} (hi:i<bs.length) (hw:bs[i].s<t) (hp:∀x (h:x<i),¬bs[x].s<t):uA t bs (i+1) bs/\(aV t (bs.take (i+1))).length=i:=by
 have h1:aV t (bs.take i)=bs.take i:=uv fun b hb=>by
  obtain⟨x,hx,rfl⟩:=List.getElem_of_mem hb
  rw[List.length_take]at hx
  rw[List.getElem_take]
  exact hp x (by omega)
 have h2:aV t (bs.take (i+1))=bs.take i:=by rw[pz hi,if_pos (decide_eq_true hw),List.append_nil,h1]
 have h3:(bs.take i).length=i:=by rw[List.length_take];omega
 exact⟨⟨rfl,by rw[h2,h3],fun _ _=>rfl,by rw[h2,h3];omega⟩,by rw[h2,h3]⟩
theorem uA.XY {t:Int} {bs R:List PB} {j:Nat} (h:uA t bs j R) (hj:j<bs.length) (hw:bs[j].s<t):uA t bs (j+1) R/\(aV t (bs.take (j+1))).length=(aV t (bs.take j)).length:=by
 have h2:aV t (bs.take (j+1))=aV t (bs.take j):=by rw[pz hj,if_pos (decide_eq_true hw),List.append_nil]
 exact⟨⟨h.len,by rw[h2];exact h.pre,fun x hx=>h.post x (by omega),by rw[h2];have:=h.lt;omega⟩,by rw[h2]⟩
theorem uA.wO {t:Int} {bs R:List PB} {j:Nat} (h:uA t bs j R) (hj:j<bs.length) (hw:¬bs[j].s<t):uA t bs (j+1) (R.set (aV t (bs.take j)).length bs[j])/\(aV t (bs.take (j+1))).length=(aV t (bs.take j)).length+1:=by
 have h2:aV t (bs.take (j+1))=aV t (bs.take j)++[bs[j]]:=by rw[pz hj,if_neg (by simp only[decide_eq_true_eq];exact hw)]
 have eo:=h.lt
 have hlen:=h.len
 have yj:=h.pre
 generalize hc:(aV t (bs.take j)).length=c at *
 refine⟨⟨by rw[List.length_set];exact hlen,?_,fun x hx=>?_,by rw[h2,List.length_append,hc];simp;omega⟩,by rw[h2,List.length_append,hc];rfl⟩
 ·rw[h2,List.length_append,hc,List.length_singleton,List.take_succ_eq_append_getElem (by rw[List.length_set];omega),List.getElem_set_self,List.take_set_of_le (Nat.le_refl _),yj]
 ·rw[List.getElem?_set_ne (by omega)];exact h.post x (by omega)
theorem uA.at_ {t:Int} {bs R:List PB} {j:Nat} (h:uA t bs j R) (hj:j<bs.length):(R.map aD)[j]? =some (aD bs[j]):=by
 rw[List.getElem?_map,h.post j (Nat.le_refl j),List.getElem?_eq_getElem hj];rfl
theorem El {p:PB->Bool} {bs:List PB} (h:¬0<=kF p bs):∀b∈bs,p b=false:=by
 intro b hb
 unfold kF at h
 split at h
 ·omega
 ·rename_i h1
  rw[List.findIdx_lt_length]at h1
  cases hp:p b
  ·rfl
  ·exact absurd ⟨b,hb,hp⟩ h1
theorem Em {p:PB->Bool} {bs:List PB} (h:0<=kF p bs):∃i,∃hi:i<bs.length,kF p bs=(i:Int)/\p bs[i]=true/\∀x (hx:x<i),p (bs[x]'(by omega))=false:=by
 unfold kF at h ⊢
 split
 ·rename_i h1
  exact⟨bs.findIdx p,h1,rfl,List.findIdx_getElem,fun x hx=>by simpa using List.not_of_lt_findIdx hx⟩
 ·rename_i h1;rw[if_neg h1]at h;omega
theorem Ho (bs:List PB) (t:Int) (hl:bs.length<=1048576) (o T:Id) (σ:ay) (ho:σ.get o=some ⟨true,3,bs.map aD⟩) (hT:σ.get T=some ⟨true,1,[[.int .i64 t]]⟩) (pO:o.br<σ.next) (WK:T.br<σ.next) (Sj:o≠T):
  Call Tryz.prog 321 [.own o 0 bs.length,.fn 323 [.ptr T 0 0]] σ fun r σ'=>∃rows,r=.own o 0 (aV t bs).length/\σ'.get o=some ⟨true,3,rows⟩/\rows.take (aV t bs).length=(aV t bs).map aD/\(aV t bs).length<=rows.length/\σ.next<=σ'.next/\∀i:Id,i.br<σ.next->i≠o->σ'.get i=σ.get i:=by
 refine e6 eK rfl fun lf=>?_
 clear lf
 have Dy:=y6 bs t hl
 have hzT:∀(g:Rows),g T=some ⟨true,1,[[.int .i64 t]]⟩->V.fz (dK g) 5 (.ptr T 0 0)=some (.dp [.int .i64 t]):=fun g hg=>wv (sz:=1) (rows:=[[.int .i64 t]]) (by simp[dK,hg]) rfl (by simp only[List.drop_zero,aq,au,aH,Option.map_some])
 have y5:∀(g:Rows),g T=some ⟨true,1,[[.int .i64 t]]⟩->g o=some ⟨true,3,bs.map aD⟩->de (dK g) 6 [.own o 0 bs.length,.fn 323 [.ptr T 0 0]]=some [.sl (bs.map aD),.fn 323 [.dp [.int .i64 t]]]:=fun g h1 h2=>by
  have q1:=gI (g:=dK g) (n:=5) (e:=aD) (sz:=3) (len:=bs.length) (l:=bs) (id:=o) (by simp[dK,h2]) rfl fun b=>zY _ 4 b
  have q2:=hzT g h1
  simp only[aq,au,q1,cH,List.all_cons,List.all_nil,AV.cell,Bool.and_true,if_true,q2,Option.map_some]
 have kR:∀(g:Rows),g T=some ⟨true,1,[[.int .i64 t]]⟩->∀b:PB,de (dK g) 6 [.agg (aD b),.ptr T 0 0]=some [.agg (aD b),.dp [.int .i64 t]]:=fun g h1 b=>by
  have q3:V.fz (dK g) 6 (.ptr T 0 0)=some (.dp [.int .i64 t]):=wv (sz:=1) (rows:=[[.int .i64 t]]) (by simp[dK,h1]) rfl (by simp only[List.drop_zero,aq,au,aH,Option.map_some])
  simp only[aq,au,bh,zY,q3,Option.map_some]
 (try((repeat(revert hN;revert N;apply Pn.out));refine wk @Nat.zero_add ?_;(repeat(refine Pn.mk ?_;intro N hN))))
 refine .inl ⟨_,aw.x Dy (y5 _ hT ho),?_⟩
 refine hN _ _ ?_
 clear hN N
 by_cases h0:0<=kF (fun b:PB=>decide (b.s<t)) bs
 ·obtain⟨i,hi,HL,hpi,Kq⟩:=Em h0
  rw[HL]at *
  have Nb:decide ((i:Int)= -1)=false:=decide_eq_false (by omega)
  have Ua:IntKind.i64.wrap ((i:Int)+1)=((i+1:Nat):Int):=az (by omega)
  obtain⟨eu,u9⟩:=uA.start (t:=t) hi (by simpa using hpi) (fun x hx=>by simpa using Kq x hx)
  (try((repeat(revert hN;revert N;apply Pn.out));refine wk (tw @Nb @Ua) ?_;(repeat(refine Pn.mk ?_;intro N hN))))
  refine aX (fun m env st=>∃(j:Nat) (R:List PB),m=bs.length-j/\env 6=.int .i64 (j:Int)/\env 5=.int .i64 ((aV t (bs.take j)).length:Int)/\st.get o=some ⟨true,3,R.map aD⟩/\uA t bs j R/\j<=bs.length/\σ.next<=st.next/\∀x:Id,x.br<σ.next->(x=o)=False->st.get x=σ.get x) (bs.length-(i+1)) ⟨i+1,bs,rfl,sd @Ua,sd @u9,sd @ho,eu,by omega,by(try dsimp only);omega,fun x _ _=>sd @Nat.zero_add⟩ ?_
  rintro m env_b st_b ⟨j,R,rfl,b6,b5,bg,hD,gT,hle,l5⟩ eX
  have b0:=eX 0 (by kernel_rfl)
  have b1:=eX 1 (by kernel_rfl)
  simp only[go_sem, ↓reduceIte,Nat.reduceEqDiff,Nat.reduceAdd,Nat.reduceSub,Nat.reduceLeDiff,reduceCtorEq]at b0 b1
  clear eX
  have bT:=(l5 T WK (by simp only[eq_iff_iff,iff_false];exact fun h=>Sj h.symm)).trans hT
  have kW:=dr (i:=o) (n:=st_b.next) (by omega)
  have XI:=dr (i:=T) (n:=st_b.next) (by omega)
  have hRl:=hD.len
  have WH:(R.map aD).length=bs.length:=by rw[List.length_map,hRl]
  have eo:=hD.lt
  by_cases hj:(j:Int)<(bs.length:Int)
  ·have gW:j<bs.length:=by omega
   have Ai:=hD.at_ gW
   have QZ:=LU bs[j] t
   have VF:IntKind.i64.wrap ((j:Int)+1)=((j+1:Nat):Int):=az (by omega)
   have hD1:=hD.XY gW
   have hD2:=hD.wO gW
   generalize bs[j]=b at *
   (try((repeat(revert hN;revert N;apply Pn.out));refine wk (tw @b0 (tw @b1 (tw @b5 (tw @b6 (tw @bg (tw @hj (tw @Ai (tw @aD.eq_1 (tw @kW (tw @XI @WH)))))))))) ?_;(repeat(refine Pn.mk ?_;intro N hN))))
   refine .inl ⟨_,aw.x QZ (kR _ (sd (tw @XI @bT)) b),?_⟩
   refine hN _ _ ?_
   clear hN N
   by_cases hw:b.s<t
   ·obtain⟨Wt,Ws⟩:=hD1 hw
    have hd:decide (b.s<t)=true:=decide_eq_true hw
    (try((repeat(revert hN;revert N;apply Pn.out));refine wk (tw @b0 (tw @b1 (tw @b5 (tw @b6 (tw @hd @VF))))) ?_;(repeat(refine Pn.mk ?_;intro N hN))))
    refine⟨_,?_,j+1,R,rfl,sd @VF,sd (tw @b5 @Ws),sd (tw @bg @kW),Wt,by omega,by(try dsimp only);omega,fun x hx Bo=>?_⟩
    ·omega
    ·have Ss:=dr (i:=x) (n:=st_b.next) (by omega)
     have:=l5 x hx Bo
     simp only[go_sem, ↓reduceIte,Nat.reduceEqDiff,Nat.reduceAdd,Nat.reduceSub,Nat.reduceLeDiff,reduceCtorEq,Ss,this]
   ·obtain⟨Wt,Ws⟩:=hD2 hw
    have hd:decide (b.s<t)=false:=decide_eq_false hw
    have Vf:((aV t (bs.take j)).length:Int)<(bs.length:Int):=by omega
    have hwc:IntKind.i64.wrap (((aV t (bs.take j)).length:Int)+1)=(((aV t (bs.take j)).length+1:Nat):Int):=az (by omega)
    have eC:(R.map aD).set (aV t (bs.take j)).length [.int .i64 (b.a:Int),.int .i64 (b.b:Int),.int .i64 b.s]=(R.set (aV t (bs.take j)).length b).map aD:=by rw[List.map_set];rfl
    have O2:∃y,(R.map aD)[(aV t (bs.take j)).length]? =some (aD y):=⟨R[(aV t (bs.take j)).length]'(by omega),by rw[List.getElem?_map,List.getElem?_eq_getElem (by omega)];rfl⟩
    obtain⟨y,O2⟩:=O2
    rw[aD]at O2
    (try((repeat(revert hN;revert N;apply Pn.out));refine wk (tw @b0 (tw @b1 (tw @b5 (tw @b6 (tw @bg (tw @hd (tw @VF (tw @hwc (tw @Vf (tw @eC (tw @O2 (tw @kW (tw @XI @WH))))))))))))) ?_;(repeat(refine Pn.mk ?_;intro N hN))))
    refine⟨_,?_,j+1,_,rfl,sd @VF,sd (tw @hwc @Ws),sd @eC,Wt,by omega,by(try dsimp only);omega,fun x hx Bo=>?_⟩
    ·omega
    ·have Ss:=dr (i:=x) (n:=st_b.next) (by omega)
     have:=l5 x hx Bo
     simp only[go_sem, ↓reduceIte,Nat.reduceEqDiff,Nat.reduceAdd,Nat.reduceSub,Nat.reduceLeDiff,reduceCtorEq,Ss,this,Bo]
  ·have gT:j=bs.length:=by omega
   subst gT
   have yj:=hD.pre
   rw[List.take_length]at b5 eo yj
   have Vf:((aV t bs).length:Int)<=(bs.length:Int):=by omega
   have Vg:(aV t bs).length<=bs.length:=by omega
   have rn:(aV t bs).length+(bs.length-(aV t bs).length)=bs.length:=by omega
   have u9:=nM t bs
   (try((repeat(revert hN;revert N;apply Pn.out));refine wk (tw @b0 (tw @b1 (tw @b5 (tw @b6 (tw @bg (tw @hj (tw @WH (tw @Vf (tw @Vg (tw @rn (tw @Nat.le_refl (tw @Nat.sub_zero (tw @Int.le_refl @kW))))))))))))) ?_;(repeat(refine Pn.mk ?_;intro N hN))))
   refine fe (.inl rfl) (vs:=[.own o 0 (aV t bs).length]) (sd @Nat.zero_add) ⟨_,rfl,by simp only[go_sem, ↓reduceIte,Nat.reduceEqDiff,Nat.reduceAdd,Nat.reduceSub,Nat.reduceLeDiff,reduceCtorEq];rfl,?_,?_,by(try dsimp only);omega,fun x hx Bo=>?_⟩
   ·have hm:List.take (aV t bs).length (List.map aD R)=(aV t bs).map aD:=by rw[<-List.map_take,yj]
    rw[hm,List.append_assoc,List.take_append_of_le_length (by simp),List.take_of_length_le (by simp)]
   ·have hm:List.take (aV t bs).length (List.map aD R)=(aV t bs).map aD:=by rw[<-List.map_take,yj]
    rw[hm]
    simp only[List.length_append,List.length_map]
    omega
   ·have Ub:(x=o)=False:=by simp only[eq_iff_iff,iff_false];exact Bo
    have:=l5 x hx Ub
    simp only[go_sem, ↓reduceIte,Nat.reduceEqDiff,Nat.reduceAdd,Nat.reduceSub,Nat.reduceLeDiff,reduceCtorEq,Ub,this]
 ·have hn:=El h0
  have eu:=uv (t:=t) (bs:=bs) fun b hb=>by simpa using hn b hb
  have hd:decide (kF (fun b:PB=>decide (b.s<t)) bs= -1)=true:=decide_eq_true (by
   unfold kF at h0 ⊢
   split
   ·rename_i h;rw[if_pos h]at h0;omega
   ·rfl)
  (try((repeat(revert hN;revert N;apply Pn.out));refine wk @hd ?_;(repeat(refine Pn.mk ?_;intro N hN))))
  refine fe (.inl rfl) (vs:=[.own o 0 bs.length]) (sd @Nat.zero_add) ⟨bs.map aD,by rw[eu];rfl,sd @ho,by rw[eu,List.take_of_length_le (by simp)],by rw[eu];simp,by(try dsimp only);omega,fun x _ _=>rfl⟩
def AS (bs:List PB):AV:=if bs=[]then .cj else .sl (bs.map aD)
theorem Ol:AS []=.cj:=rfl
theorem AU {bs:List PB} (h:0<bs.length):AS bs=.sl (bs.map aD):=by
 unfold AS
 rw[if_neg (by rintro rfl;simp at h)]
theorem yc (cnt:Nat) (Al:1<=cnt) (hn:cnt<=1048576) (bs:List PB) (hb:∀b∈bs,b.a<cnt/\b.b<cnt) (hp:0<bs.length) (od:bs.length<=1048576) (t:Int):aw Tryz.prog 287 [.int .i64 cnt,.sl (bs.map aD),.int .i64 t] (.iA [.int .i64 (leads cnt (eJ (aV t bs))).length,AS (dL (eJ (aV t bs)) bs)]):=by
 refine aw.body eK rfl fun hl n0=>?_
 clear hl
 (try((repeat(revert hN;revert N;apply Pn.out));refine wk @Nat.zero_add ?_;(repeat(refine Pn.mk ?_;intro N hN))))
 refine .inr (aJ _ _ _ _ _ (fun r σ1 hq=>?_) (JH bs hp od _))
 obtain⟨o,rfl,ho,Nh,Ni,TC⟩:=hq
 (try dsimp only at ho Nh Ni TC)
 refine hN _ _ ?_
 clear hN N
 (try((repeat(revert hN;revert N;apply Pn.out));refine wk @Nat.zero_add ?_;(repeat(refine Pn.mk ?_;intro N hN))))
 refine .inr (aJ _ _ _ _ _ (fun r σ2 hq=>?_) (Ho bs t od o ⟨287000000,n0⟩ _ ho (by rw[TC _ (by(try dsimp only);omega)];simp only[go_sem, ↓reduceIte,Nat.reduceEqDiff,Nat.reduceAdd,Nat.reduceSub,Nat.reduceLeDiff,reduceCtorEq]) (by(try dsimp only);omega) (by(try dsimp only);omega) (by rintro rfl;simp only at Nh;omega)))
 obtain⟨rows,rfl,fy,hrt,pP,nA,Kf⟩:=hq
 (try dsimp only at nA Kf)
 refine hN _ _ ?_
 clear hN N
 have I6:=wz cnt Al hn (aV t bs) (fun b h=>hb b (xF h)) (by have:=nM t bs;omega)
 have hL:=uk (aV t bs)
 have hz:∀x,de (dK σ2.get) 6 [.int .i64 x,.own o 0 (aV t bs).length]=some [.int .i64 x,.sl ((aV t bs).map aD)]:=fun x=>by
  have:V.fz (dK σ2.get) 6 (.own o 0 (aV t bs).length)=some (.sl ((aV t bs).map aD)):=by
   rw[gE];simp only[dK,fy,Option.map_some,if_true]
   rw[if_pos (by omega),List.drop_zero,hrt,nz fun b=>zY _ 4 b];rfl
  simp only[aq,au,aH,this,Option.map_some]
 (try((repeat(revert hN;revert N;apply Pn.out));refine wk @Nat.zero_add ?_;(repeat(refine Pn.mk ?_;intro N hN))))
 refine .inl ⟨_,aw.x I6 (hz _),?_⟩
 refine hN _ _ ?_
 clear hN N
 generalize eJ (aV t bs)=L at *
 have s6:((fQ cnt L).map Be).length=(leads cnt L).length:=by simp[fQ]
 have Vq:=jW cnt L
 have jO:(0:Int)<=(cnt:Int):=by omega
 have qi:(cnt:Int)<=((16777216:Nat):Int):=by omega
 have gS:List.replicate cnt [AV.int .i64 0]=ef (di cnt L 0 0) cnt:=by rw[xJ,pe]
 (try((repeat(revert hN;revert N;apply Pn.out));refine wk (tw @jO (tw @qi (tw @Int.le_refl (tw @s6 @gS)))) ?_;(repeat(refine Pn.mk ?_;intro N hN))))
 refine aX (fun n env st=>∃i:Nat,n=((leads cnt L).length)-i/\i<=((leads cnt L).length)/\env 27=.int .i64 (i:Int)/\st.get ⟨287002001,σ2.next+1⟩=some ⟨true,1,ef (di cnt L i 0) cnt⟩/\(σ2.next+1<st.next)) ((leads cnt L).length) ⟨0,by omega,by omega,sl (tw @gS @s6),sl (tw @gS @s6),(by(try dsimp only);omega)⟩ ?_
 rintro n_c env_c st_c ⟨i,rfl,cle,c27,cg0,cI0⟩ iO
 have c1:=iO 1 (by kernel_rfl);have c8:=iO 8 (by kernel_rfl);have c9:=iO 9 (by kernel_rfl);have x8:=iO 25 (by kernel_rfl);have x9:=iO 26 (by kernel_rfl)
 simp only[go_sem, ↓reduceIte,Nat.reduceEqDiff,Nat.reduceAdd,Nat.reduceSub,Nat.reduceLeDiff,reduceCtorEq,gS,s6]at c1 c8 c9 x8 x9
 clear iO
 by_cases hi:(i:Int)<((leads cnt L).length:Int)
 ·have gN:∀{e:Env} {gg:Rows} {nx:Nat},(e 27=.int .i64 (IntKind.i64.wrap ((i:Int)+1)))->(gg ⟨287002001,σ2.next+1⟩=some ⟨true,1,ef (di cnt L (i+1) 0) cnt⟩)->(σ2.next+1<nx)->∃m0,m0<((leads cnt L).length)-i/\∃i:Nat,m0=((leads cnt L).length)-i/\i<=((leads cnt L).length)/\e 27=.int .i64 (i:Int)/\gg ⟨287002001,σ2.next+1⟩=some ⟨true,1,ef (di cnt L i 0) cnt⟩/\(σ2.next+1<nx):=fun x1 x2 x3=>⟨_,by omega,i+1,rfl,by omega,(by rw[x1,az (by omega)]),x2,x3⟩
  have fI:i<(leads cnt L).length:=by omega
  have jm:((fQ cnt L).map Be)[i]? =some (Be (members cnt L (leads cnt L)[i])):=by simp[fQ,fI]
  have rO:(leads cnt L).getD i 0=(leads cnt L)[i]:=by simp[List.getD_eq_getElem?_getD,fI]
  have lO:∀m,di cnt L i m=fun x=>if cu L x<i then cu L x else if x∈(members cnt L (leads cnt L)[i]).take m then i else 0:=fun m=>by unfold di;rw[rO]
  have sn:=fun x (hx:x<cnt)=>tE hL (n:=cnt) (k:=x) (i:=i) hx fI
  have lg:(members cnt L (leads cnt L)[i]).Nodup:=List.nodup_range.filter _
  have QI:∀x∈members cnt L (leads cnt L)[i],x<cnt:=fun x hx=>(l9.1 hx).1
  have hMc:(members cnt L (leads cnt L)[i]).length<=cnt:=by
   have:=List.length_filter_le (fun k=>L k==(leads cnt L)[i]) (List.range cnt)
   simpa[members]using this
  generalize members cnt L (leads cnt L)[i]=M at *
  have Dw:(M.map eN).length=M.length:=by simp
  (try((repeat(revert hN;revert N;apply Pn.out));refine wk (tw @c27 (tw @cg0 (tw @c1 (tw @c8 (tw @c9 (tw @x8 (tw @x9 (tw @hi (tw @s6 (tw @jm (tw @Be.eq_1 @Dw))))))))))) ?_;(repeat(refine Pn.mk ?_;intro N hN))))
  refine aX (fun n env st=>∃m:Nat,n=(M.length)-m/\m<=(M.length)/\env 34=.int .i64 (m:Int)/\st.get ⟨287002001,σ2.next+1⟩=some ⟨true,1,ef (di cnt L i m) cnt⟩/\(σ2.next+1<st.next)) (M.length) ⟨0,by omega,by omega,sl (tw @c27 (tw @cg0 (tw @c1 (tw @c8 (tw @c9 (tw @x8 (tw @x9 @Dw))))))),sl (tw @c27 (tw @cg0 (tw @c1 (tw @c8 (tw @c9 (tw @x8 (tw @x9 @Dw))))))),(by(try dsimp only);omega)⟩ ?_
  rintro n_d env_d st_d ⟨m,rfl,dle,d34,dg0,dI0⟩ dfr
  have d1:=dfr 1 (by kernel_rfl);have d8:=dfr 8 (by kernel_rfl);have d9:=dfr 9 (by kernel_rfl);have d10:=dfr 10 (by kernel_rfl);have d25:=dfr 25 (by kernel_rfl);have d26:=dfr 26 (by kernel_rfl);have d27:=dfr 27 (by kernel_rfl);have d32:=dfr 32 (by kernel_rfl);have d33:=dfr 33 (by kernel_rfl)
  simp only[go_sem, ↓reduceIte,Nat.reduceEqDiff,Nat.reduceAdd,Nat.reduceSub,Nat.reduceLeDiff,reduceCtorEq,c27,cg0,c1,c8,c9,x8,x9,Dw]at d1 d8 d9 d10 d25 d26 d27 d32 d33
  clear dfr
  have tl:=gF (di cnt L i m) cnt
  by_cases hm:(m:Int)<(M.length:Int)
  ·have uo:∀{e:Env} {gg:Rows} {nx:Nat},(e 34=.int .i64 (IntKind.i64.wrap ((m:Int)+1)))->(gg ⟨287002001,σ2.next+1⟩=some ⟨true,1,ef (di cnt L i (m+1)) cnt⟩)->(σ2.next+1<nx)->∃m0,m0<(M.length)-m/\∃m:Nat,m0=(M.length)-m/\m<=(M.length)/\e 34=.int .i64 (m:Int)/\gg ⟨287002001,σ2.next+1⟩=some ⟨true,1,ef (di cnt L i m) cnt⟩/\(σ2.next+1<nx):=fun x1 x2 x3=>⟨_,by omega,m+1,rfl,by omega,(by rw[x1,az (by omega)]),x2,x3⟩
   have Ak:m<M.length:=by omega
   have s7:(M.map eN)[m]? =some (eN M[m]):=by simp[Ak]
   have wK:=QI _ (List.getElem_mem Ak)
   have DF:(M[m]:Int)<(cnt:Int):=by omega
   have DE:=fH (f:=di cnt L i m) wK
   have eC:(ef (di cnt L i m) cnt).set M[m] (eN i)=ef (di cnt L i (m+1)) cnt:=p9 wK (by
    have h1:=(sn _ wK).1 (List.getElem_mem Ak)
    rw[lO]
    simp only[]
    rw[if_neg (by omega),if_pos (by rw[List.take_succ_eq_append_getElem Ak];exact List.mem_append_right _ (List.mem_singleton.2 rfl))]) fun x hx ij=>by
    rw[lO,lO]
    simp only[]
    rw[List.take_succ_eq_append_getElem Ak]
    simp only[List.mem_append,List.mem_singleton,ij,or_false]
   rw[eN]at eC DE
   generalize M[m]=xm at *
   (try((repeat(revert hN;revert N;apply Pn.out));refine wk (tw @d34 (tw @dg0 (tw @d1 (tw @d8 (tw @d9 (tw @d10 (tw @d25 (tw @d26 (tw @d27 (tw @d32 (tw @d33 (tw @hm (tw @hi (tw @s7 (tw @Dw (tw @DF (tw @DE (tw @tl (tw @eC @eN.eq_1))))))))))))))))))) ?_;(repeat(refine Pn.mk ?_;intro N hN))))
   refine uo ?_ ?_ (by(try dsimp only);omega)
   all_goals simp only[go_sem, ↓reduceIte,Nat.reduceEqDiff,Nat.reduceAdd,Nat.reduceSub,Nat.reduceLeDiff,reduceCtorEq,d34,dg0,d1,d8,d9,d10,d25,d26,d27,d32,d33,eC]
  ·have gR:m=M.length:=by omega
   subst gR
   have pN:ef (di cnt L i M.length) cnt=ef (di cnt L (i+1) 0) cnt:=ik fun x hx=>by
    rw[lO,List.take_length]
    simp only[di,List.take_zero,List.not_mem_nil,if_false]
    have h1:=sn x hx
    by_cases h2:cu L x<i
    ·rw[if_pos h2,if_pos (by omega)]
    ·rw[if_neg h2]
     by_cases h3:x∈M
     ·rw[if_pos h3,if_pos (by have:=h1.1 h3;omega),h1.1 h3]
     ·rw[if_neg h3,if_neg fun h4=>h3 (h1.2 (by omega))]
   (try((repeat(revert hN;revert N;apply Pn.out));refine wk (tw @d34 (tw @dg0 (tw @d1 (tw @d8 (tw @d9 (tw @d10 (tw @d25 (tw @d26 (tw @d27 (tw @d32 (tw @d33 (tw @hm (tw @hi (tw @s6 @Dw)))))))))))))) ?_;(repeat(refine Pn.mk ?_;intro N hN))))
   refine gN ?_ ?_ (by(try dsimp only);omega)
   all_goals simp only[go_sem, ↓reduceIte,Nat.reduceEqDiff,Nat.reduceAdd,Nat.reduceSub,Nat.reduceLeDiff,reduceCtorEq,c27,cg0,c1,c8,c9,x8,x9,d34,dg0,d1,d8,d9,d10,d25,d26,d27,d32,d33,pN]
 have mj:i=(leads cnt L).length:=by omega
 subst mj
 have qx:ef (di cnt L (leads cnt L).length 0) cnt=ef (cu L) cnt:=ik fun x hx=>by rw[di,if_pos (kn hL hx)]
 rw[qx]at cg0
 have tl:=gF (cu L) cnt
 have Vd:(bs.map aD).length=bs.length:=by simp
 (try((repeat(revert hN;revert N;apply Pn.out));refine wk (tw @c27 (tw @cg0 (tw @c1 (tw @c8 (tw @c9 (tw @x8 (tw @x9 (tw @hi (tw @s6 @Vd))))))))) ?_;(repeat(refine Pn.mk ?_;intro N hN))))
 have Vg:σ2.next+1<st_c.next:=cI0
 refine aX (fun n env st=>∃j:Nat,n=(bs.length)-j/\j<=(bs.length)/\env 46=.int .i64 (j:Int)/\st.get ⟨287002001,σ2.next+1⟩=some ⟨true,1,ef (cu L) cnt⟩/\(st_c.next<=st.next/\((dL L (bs.take j)=[]/\env 14=.cj)∨∃p:Id,env 14=.own p 0 (dL L (bs.take j)).length/\st.get p=some ⟨true,3,(dL L (bs.take j)).map aD⟩/\st_c.next<=p.br/\p.br<st.next/\0<(dL L (bs.take j)).length))) (bs.length) ⟨0,by omega,by omega,sl (tw @c27 (tw @cg0 (tw @c1 (tw @c8 (tw @c9 (tw @x8 (tw @x9 @Vd))))))),sl (tw @c27 (tw @cg0 (tw @c1 (tw @c8 (tw @c9 (tw @x8 (tw @x9 @Vd))))))),⟨by(try dsimp only);omega,.inl ⟨rfl,by(simp only[go_sem, ↓reduceIte,Nat.reduceEqDiff,Nat.reduceAdd,Nat.reduceSub,Nat.reduceLeDiff,reduceCtorEq])⟩⟩⟩ ?_
 rintro n_f env_f st_f ⟨j,rfl,fle,f46,fg0,fI0⟩ ffr
 have f1:=ffr 1 (by kernel_rfl);have f8:=ffr 8 (by kernel_rfl);have f9:=ffr 9 (by kernel_rfl);have f44:=ffr 44 (by kernel_rfl);have f45:=ffr 45 (by kernel_rfl)
 simp only[go_sem, ↓reduceIte,Nat.reduceEqDiff,Nat.reduceAdd,Nat.reduceSub,Nat.reduceLeDiff,reduceCtorEq,c27,cg0,c1,c8,c9,x8,x9,Vd]at f1 f8 f9 f44 f45
 clear ffr
 obtain⟨Vk,fO⟩:=fI0
 have HR:=dr (i:=⟨287002001,σ2.next+1⟩) (n:=st_f.next) (by(try dsimp only);omega)
 have u9:=(nL L (bs.take j)).1
 rw[List.length_take]at u9
 by_cases hj:(j:Int)<(bs.length:Int)
 ·have sJ:∀{e:Env} {gg:Rows} {nx:Nat},(e 46=.int .i64 (IntKind.i64.wrap ((j:Int)+1)))->(gg ⟨287002001,σ2.next+1⟩=some ⟨true,1,ef (cu L) cnt⟩)->(st_c.next<=nx/\((dL L (bs.take (j+1))=[]/\e 14=.cj)∨∃p:Id,e 14=.own p 0 (dL L (bs.take (j+1))).length/\gg p=some ⟨true,3,(dL L (bs.take (j+1))).map aD⟩/\st_c.next<=p.br/\p.br<nx/\0<(dL L (bs.take (j+1))).length))->∃m0,m0<(bs.length)-j/\∃j:Nat,m0=(bs.length)-j/\j<=(bs.length)/\e 46=.int .i64 (j:Int)/\gg ⟨287002001,σ2.next+1⟩=some ⟨true,1,ef (cu L) cnt⟩/\(st_c.next<=nx/\((dL L (bs.take j)=[]/\e 14=.cj)∨∃p:Id,e 14=.own p 0 (dL L (bs.take j)).length/\gg p=some ⟨true,3,(dL L (bs.take j)).map aD⟩/\st_c.next<=p.br/\p.br<nx/\0<(dL L (bs.take j)).length)):=fun x1 x2 x3=>⟨_,by omega,j+1,rfl,by omega,(by rw[x1,az (by omega)]),x2,x3⟩
  have gW:j<bs.length:=by omega
  have Ai:(bs.map aD)[j]? =some (aD bs[j]):=by simp[gW]
  have M0:=hb _ (List.getElem_mem gW)
  have hs:=AP L (bs.take j) bs[j]
  rw[<-List.take_succ_eq_append_getElem gW]at hs
  generalize bs[j]=b at *
  have hA:=fH (f:=cu L) M0.1
  have hB:=fH (f:=cu L) M0.2
  have gQ:(b.a:Int)<(cnt:Int):=by omega
  have fJ:(b.b:Int)<(cnt:Int):=by omega
  rw[eN]at hA hB
  have e1:(dL L (bs.take j)).length+1<=16777216:=by omega
  have gR:((dL L (bs.take j)).map aD).length=(dL L (bs.take j)).length:=by simp
  by_cases he:cu L b.a=cu L b.b
  ·rw[if_pos he,List.append_nil]at hs
   have xS:decide ((cu L b.a:Int)=(cu L b.b:Int))=true:=decide_eq_true (by rw[he])
   (try((repeat(revert hN;revert N;apply Pn.out));refine wk (tw @f46 (tw @fg0 (tw @f1 (tw @f8 (tw @f9 (tw @f44 (tw @f45 (tw @hj (tw @Ai (tw @hA (tw @hB (tw @gQ (tw @fJ (tw @tl (tw @xS (tw @HR (tw @aD.eq_1 (tw @Bool.not_true @Bool.not_false)))))))))))))))))) ?_;(repeat(refine Pn.mk ?_;intro N hN))))
   refine sJ ?_ ?_ (by(try dsimp only);exact⟨by omega,by
    rw[hs]
    rcases fO with⟨h1,h2⟩|⟨p,h1,h2,h3,h4,h5⟩
    ·exact .inl ⟨h1,sd @h2⟩
    ·have Bl:=dr h4
     exact .inr ⟨p,sd @h1,sd (tw @h2 @Bl),h3,by omega,h5⟩⟩)
   all_goals simp only[go_sem, ↓reduceIte,Nat.reduceEqDiff,Nat.reduceAdd,Nat.reduceSub,Nat.reduceLeDiff,reduceCtorEq,f46,fg0,f1,f8,f9,f44,f45,HR]
  ·rw[if_neg he]at hs
   have xS:decide ((cu L b.a:Int)=(cu L b.b:Int))=false:=decide_eq_false fun h=>he (by omega)
   rcases fO with⟨h1,f14⟩|⟨p,f14,fg,QP,Kn,hp3⟩
   ·rw[h1]at hs
    (try((repeat(revert hN;revert N;apply Pn.out));refine wk (tw @f46 (tw @fg0 (tw @f1 (tw @f8 (tw @f9 (tw @f44 (tw @f45 (tw @f14 (tw @hj (tw @Ai (tw @hA (tw @hB (tw @gQ (tw @fJ (tw @tl (tw @xS (tw @HR (tw @aD.eq_1 (tw @Bool.not_true @Bool.not_false))))))))))))))))))) ?_;(repeat(refine Pn.mk ?_;intro N hN))))
    refine sJ ?_ ?_ (by(try dsimp only);exact⟨by omega,.inr ⟨⟨287017015,st_f.next+1+1+1⟩,by rw[hs];simp only[go_sem, ↓reduceIte,Nat.reduceEqDiff,Nat.reduceAdd,Nat.reduceSub,Nat.reduceLeDiff,reduceCtorEq,List.nil_append,List.length_cons,List.length_nil],by rw[hs];simp only[go_sem, ↓reduceIte,Nat.reduceEqDiff,Nat.reduceAdd,Nat.reduceSub,Nat.reduceLeDiff,reduceCtorEq,aD,List.nil_append,List.map_cons,List.map_nil],by(try dsimp only);omega,by(try dsimp only);omega,by rw[hs];simp⟩⟩)
    all_goals simp only[go_sem, ↓reduceIte,Nat.reduceEqDiff,Nat.reduceAdd,Nat.reduceSub,Nat.reduceLeDiff,reduceCtorEq,f46,fg0,f1,f8,f9,f44,f45,HR]
   ·have x1:=da (a:=⟨287002001,σ2.next+1⟩) (b:=p) (by(try dsimp only);omega)
    have Bl:=dr Kn
    (try((repeat(revert hN;revert N;apply Pn.out));refine wk (tw @f46 (tw @fg0 (tw @f1 (tw @f8 (tw @f9 (tw @f44 (tw @f45 (tw @f14 (tw @fg (tw @hj (tw @Ai (tw @hA (tw @hB (tw @gQ (tw @fJ (tw @tl (tw @xS (tw @x1 (tw @Bl (tw @HR (tw @e1 (tw @gR (tw @aD.eq_1 (tw @Bool.not_true @Bool.not_false)))))))))))))))))))))))) ?_;(repeat(refine Pn.mk ?_;intro N hN))))
    refine sJ ?_ ?_ (by(try dsimp only);exact⟨by omega,.inr ⟨⟨287017015,st_f.next+1+1+1⟩,by rw[hs,List.length_append];simp only[go_sem, ↓reduceIte,Nat.reduceEqDiff,Nat.reduceAdd,Nat.reduceSub,Nat.reduceLeDiff,reduceCtorEq,List.length_cons,List.length_nil],by rw[hs,List.map_append,List.map_cons,List.map_nil];simp only[go_sem, ↓reduceIte,Nat.reduceEqDiff,Nat.reduceAdd,Nat.reduceSub,Nat.reduceLeDiff,reduceCtorEq,aD],by(try dsimp only);omega,by(try dsimp only);omega,by rw[hs];simp⟩⟩)
    all_goals simp only[go_sem, ↓reduceIte,Nat.reduceEqDiff,Nat.reduceAdd,Nat.reduceSub,Nat.reduceLeDiff,reduceCtorEq,f46,fg0,f1,f8,f9,f44,f45,x1,HR]
 ·have gT:j=bs.length:=by omega
  subst gT
  rw[List.take_length]at fO
  rcases fO with⟨h1,f14⟩|⟨p,f14,fg,QP,Kn,hp3⟩
  ·(try((repeat(revert hN;revert N;apply Pn.out));refine wk (tw @f46 (tw @fg0 (tw @f1 (tw @f8 (tw @f9 (tw @f44 (tw @f45 (tw @f14 (tw @hj @s6))))))))) ?_;(repeat(refine Pn.mk ?_;intro N hN))))
   refine jE (.inl rfl) (r1:=.int .i64 ((leads cnt L).length:Int)) (sd @Nat.zero_add) (by simp only[go_sem, ↓reduceIte,Nat.reduceEqDiff,Nat.reduceAdd,Nat.reduceSub,Nat.reduceLeDiff,reduceCtorEq];rfl) ?_
   simp only[fF,bV,cY,eL,k9,h1,Ol,Option.map_some]
  ·(try((repeat(revert hN;revert N;apply Pn.out));refine wk (tw @f46 (tw @fg0 (tw @f1 (tw @f8 (tw @f9 (tw @f44 (tw @f45 (tw @f14 (tw @hj @s6))))))))) ?_;(repeat(refine Pn.mk ?_;intro N hN))))
   refine jE (.inl rfl) (r1:=.int .i64 ((leads cnt L).length:Int)) (sd @Nat.zero_add) (by simp only[go_sem, ↓reduceIte,Nat.reduceEqDiff,Nat.reduceAdd,Nat.reduceSub,Nat.reduceLeDiff,reduceCtorEq];rfl) ?_
   have h1:gq st_f.get 5 (.own p 0 (dL L bs).length)=some (.sl ((dL L bs).map aD)):=fA (sz:=3) fg rfl fun b=>uV _ 3 b
   simp only[fF,bV,cY,eL,h1,AU hp3,Option.map_some]
theorem ya (cnt:Nat) (Al:1<=cnt) (hn:cnt<=1048576) (t:Int):aw Tryz.prog 287 [.int .i64 cnt,.cj,.int .i64 t] (.iA [.int .i64 cnt,.cj]):=by
 refine aw.body eK rfl fun hl n0=>?_
 clear hl
 have h1:aw Tryz.prog 322 [.cj] .cj:=by
  refine aw.body eK rfl fun hl n0=>?_
  clear hl
  (try((repeat(revert hN;revert N;apply Pn.out));refine wk @Nat.zero_add ?_;(repeat(refine Pn.mk ?_;intro N hN))))
  exact xt (.inl rfl) (r0:=.cj) (sd @Nat.zero_add) (k9 _ _)
 have h2:aw Tryz.prog 321 [.cj,.fn 323 [.dp [.int .i64 t]]] .cj:=by
  have Dy:=(y6 [] t (by simp)).cut mixed (.cj (.same _ .nil))
  refine aw.body eK rfl fun hl n0=>?_
  clear hl
  (try((repeat(revert hN;revert N;apply Pn.out));refine wk @Nat.zero_add ?_;(repeat(refine Pn.mk ?_;intro N hN))))
  refine .inl ⟨_,aw.x Dy (by simp only[aq,au,aU,cH,aT,List.all_cons,List.all_nil,AV.cell,Bool.and_true,if_true,Option.map_some]),?_⟩
  refine hN _ _ ?_
  clear hN N
  have hd:decide (kF (fun b:PB=>decide (b.s<t)) []= -1)=true:=rfl
  (try((repeat(revert hN;revert N;apply Pn.out));refine wk @hd ?_;(repeat(refine Pn.mk ?_;intro N hN))))
  exact xt (.inl rfl) (r0:=.cj) (sd @Nat.zero_add) (k9 _ _)
 have I6:=(wz cnt Al hn [] (fun b h=>by cases h) (by simp)).cut mixed (.same _ (.cj .nil))
 (repeat(first|((repeat(revert hN;revert N;apply Pn.out));refine wk @Nat.zero_add ?_;(repeat(refine Pn.mk ?_;intro N hN)))|((try apply Or.inl);refine⟨_,aw.x (h1) (sd @Nat.zero_add),?_⟩;refine hN _ _ ?_;clear hN N)))
 refine .inl ⟨_,aw.x h2 ?_,?_⟩
 ·have:V.fz (dK (bL (fun _=>none) ⟨287000000,n0⟩ ⟨true,1,[[.int .i64 t]]⟩)) 5 (.ptr ⟨287000000,n0⟩ 0 0)=some (.dp [.int .i64 t]):=wv (sz:=1) (rows:=[[.int .i64 t]]) (by simp[dK,bL]) rfl (by simp only[List.drop_zero,aq,au,aH,Option.map_some])
  simp only[aq,au,aU,cH,this,List.all_cons,List.all_nil,AV.cell,Bool.and_true,if_true,Option.map_some]
 refine hN _ _ ?_
 clear hN N
 have fJ:eJ ([]:List PB)=id:=rfl
 rw[fJ]at I6
 have hL:jL id:=fJ▸uk ([]:List PB)
 have Sh:(leads cnt id).length=cnt:=by rw[leads,List.filter_eq_self.2 (fun a _=>by simp)];simp
 generalize (id:Nat->Nat)=L at *
 have s6:((fQ cnt L).map Be).length=(leads cnt L).length:=by simp[fQ]
 have Vq:=jW cnt L
 have jO:(0:Int)<=(cnt:Int):=by omega
 have qi:(cnt:Int)<=((16777216:Nat):Int):=by omega
 have gS:List.replicate cnt [AV.int .i64 0]=ef (di cnt L 0 0) cnt:=by rw[xJ,pe]
 (repeat(first|((repeat(revert hN;revert N;apply Pn.out));refine wk (tw @jO (tw @qi (tw @Int.le_refl (tw @s6 @gS)))) ?_;(repeat(refine Pn.mk ?_;intro N hN)))|((try apply Or.inl);refine⟨_,aw.x (I6) (sd (tw @jO (tw @qi (tw @Int.le_refl (tw @s6 @gS))))),?_⟩;refine hN _ _ ?_;clear hN N)))
 refine aX (fun n env st=>∃i:Nat,n=((leads cnt L).length)-i/\i<=((leads cnt L).length)/\env 27=.int .i64 (i:Int)/\st.get ⟨287002001,n0+1+1⟩=some ⟨true,1,ef (di cnt L i 0) cnt⟩/\(n0+1+1<st.next)) ((leads cnt L).length) ⟨0,by omega,by omega,sl (tw @gS @s6),sl (tw @gS @s6),(by(try dsimp only);omega)⟩ ?_
 rintro n_c env_c st_c ⟨i,rfl,cle,c27,cg0,cI0⟩ iO
 have c1:=iO 1 (by kernel_rfl);have c8:=iO 8 (by kernel_rfl);have c9:=iO 9 (by kernel_rfl);have x8:=iO 25 (by kernel_rfl);have x9:=iO 26 (by kernel_rfl)
 simp only[go_sem, ↓reduceIte,Nat.reduceEqDiff,Nat.reduceAdd,Nat.reduceSub,Nat.reduceLeDiff,reduceCtorEq,gS,s6]at c1 c8 c9 x8 x9
 clear iO
 by_cases hi:(i:Int)<((leads cnt L).length:Int)
 ·have gN:∀{e:Env} {gg:Rows} {nx:Nat},(e 27=.int .i64 (IntKind.i64.wrap ((i:Int)+1)))->(gg ⟨287002001,n0+1+1⟩=some ⟨true,1,ef (di cnt L (i+1) 0) cnt⟩)->(n0+1+1<nx)->∃m0,m0<((leads cnt L).length)-i/\∃i:Nat,m0=((leads cnt L).length)-i/\i<=((leads cnt L).length)/\e 27=.int .i64 (i:Int)/\gg ⟨287002001,n0+1+1⟩=some ⟨true,1,ef (di cnt L i 0) cnt⟩/\(n0+1+1<nx):=fun x1 x2 x3=>⟨_,by omega,i+1,rfl,by omega,(by rw[x1,az (by omega)]),x2,x3⟩
  have fI:i<(leads cnt L).length:=by omega
  have jm:((fQ cnt L).map Be)[i]? =some (Be (members cnt L (leads cnt L)[i])):=by simp[fQ,fI]
  have rO:(leads cnt L).getD i 0=(leads cnt L)[i]:=by simp[List.getD_eq_getElem?_getD,fI]
  have lO:∀m,di cnt L i m=fun x=>if cu L x<i then cu L x else if x∈(members cnt L (leads cnt L)[i]).take m then i else 0:=fun m=>by unfold di;rw[rO]
  have sn:=fun x (hx:x<cnt)=>tE hL (n:=cnt) (k:=x) (i:=i) hx fI
  have lg:(members cnt L (leads cnt L)[i]).Nodup:=List.nodup_range.filter _
  have QI:∀x∈members cnt L (leads cnt L)[i],x<cnt:=fun x hx=>(l9.1 hx).1
  have hMc:(members cnt L (leads cnt L)[i]).length<=cnt:=by
   have:=List.length_filter_le (fun k=>L k==(leads cnt L)[i]) (List.range cnt)
   simpa[members]using this
  generalize members cnt L (leads cnt L)[i]=M at *
  have Dw:(M.map eN).length=M.length:=by simp
  (try((repeat(revert hN;revert N;apply Pn.out));refine wk (tw @c27 (tw @cg0 (tw @c1 (tw @c8 (tw @c9 (tw @x8 (tw @x9 (tw @hi (tw @s6 (tw @jm (tw @Be.eq_1 @Dw))))))))))) ?_;(repeat(refine Pn.mk ?_;intro N hN))))
  refine aX (fun n env st=>∃m:Nat,n=(M.length)-m/\m<=(M.length)/\env 34=.int .i64 (m:Int)/\st.get ⟨287002001,n0+1+1⟩=some ⟨true,1,ef (di cnt L i m) cnt⟩/\(n0+1+1<st.next)) (M.length) ⟨0,by omega,by omega,sl (tw @c27 (tw @cg0 (tw @c1 (tw @c8 (tw @c9 (tw @x8 (tw @x9 @Dw))))))),sl (tw @c27 (tw @cg0 (tw @c1 (tw @c8 (tw @c9 (tw @x8 (tw @x9 @Dw))))))),(by(try dsimp only);omega)⟩ ?_
  rintro n_d env_d st_d ⟨m,rfl,dle,d34,dg0,dI0⟩ dfr
  have d1:=dfr 1 (by kernel_rfl);have d8:=dfr 8 (by kernel_rfl);have d9:=dfr 9 (by kernel_rfl);have d10:=dfr 10 (by kernel_rfl);have d25:=dfr 25 (by kernel_rfl);have d26:=dfr 26 (by kernel_rfl);have d27:=dfr 27 (by kernel_rfl);have d32:=dfr 32 (by kernel_rfl);have d33:=dfr 33 (by kernel_rfl)
  simp only[go_sem, ↓reduceIte,Nat.reduceEqDiff,Nat.reduceAdd,Nat.reduceSub,Nat.reduceLeDiff,reduceCtorEq,c27,cg0,c1,c8,c9,x8,x9,Dw]at d1 d8 d9 d10 d25 d26 d27 d32 d33
  clear dfr
  have tl:=gF (di cnt L i m) cnt
  by_cases hm:(m:Int)<(M.length:Int)
  ·have uo:∀{e:Env} {gg:Rows} {nx:Nat},(e 34=.int .i64 (IntKind.i64.wrap ((m:Int)+1)))->(gg ⟨287002001,n0+1+1⟩=some ⟨true,1,ef (di cnt L i (m+1)) cnt⟩)->(n0+1+1<nx)->∃m0,m0<(M.length)-m/\∃m:Nat,m0=(M.length)-m/\m<=(M.length)/\e 34=.int .i64 (m:Int)/\gg ⟨287002001,n0+1+1⟩=some ⟨true,1,ef (di cnt L i m) cnt⟩/\(n0+1+1<nx):=fun x1 x2 x3=>⟨_,by omega,m+1,rfl,by omega,(by rw[x1,az (by omega)]),x2,x3⟩
   have Ak:m<M.length:=by omega
   have s7:(M.map eN)[m]? =some (eN M[m]):=by simp[Ak]
   have wK:=QI _ (List.getElem_mem Ak)
   have DF:(M[m]:Int)<(cnt:Int):=by omega
   have DE:=fH (f:=di cnt L i m) wK
   have eC:(ef (di cnt L i m) cnt).set M[m] (eN i)=ef (di cnt L i (m+1)) cnt:=p9 wK (by
    have h1:=(sn _ wK).1 (List.getElem_mem Ak)
    rw[lO]
    simp only[]
    rw[if_neg (by omega),if_pos (by rw[List.take_succ_eq_append_getElem Ak];exact List.mem_append_right _ (List.mem_singleton.2 rfl))]) fun x hx ij=>by
    rw[lO,lO]
    simp only[]
    rw[List.take_succ_eq_append_getElem Ak]
    simp only[List.mem_append,List.mem_singleton,ij,or_false]
   rw[eN]at eC DE
   generalize M[m]=xm at *
   (try((repeat(revert hN;revert N;apply Pn.out));refine wk (tw @d34 (tw @dg0 (tw @d1 (tw @d8 (tw @d9 (tw @d10 (tw @d25 (tw @d26 (tw @d27 (tw @d32 (tw @d33 (tw @hm (tw @hi (tw @s7 (tw @Dw (tw @DF (tw @DE (tw @tl (tw @eC @eN.eq_1))))))))))))))))))) ?_;(repeat(refine Pn.mk ?_;intro N hN))))
   refine uo ?_ ?_ (by(try dsimp only);omega)
   all_goals simp only[go_sem, ↓reduceIte,Nat.reduceEqDiff,Nat.reduceAdd,Nat.reduceSub,Nat.reduceLeDiff,reduceCtorEq,d34,dg0,d1,d8,d9,d10,d25,d26,d27,d32,d33,eC]
  ·have gR:m=M.length:=by omega
   subst gR
   have pN:ef (di cnt L i M.length) cnt=ef (di cnt L (i+1) 0) cnt:=ik fun x hx=>by
    rw[lO,List.take_length]
    simp only[di,List.take_zero,List.not_mem_nil,if_false]
    have h1:=sn x hx
    by_cases h2:cu L x<i
    ·rw[if_pos h2,if_pos (by omega)]
    ·rw[if_neg h2]
     by_cases h3:x∈M
     ·rw[if_pos h3,if_pos (by have:=h1.1 h3;omega),h1.1 h3]
     ·rw[if_neg h3,if_neg fun h4=>h3 (h1.2 (by omega))]
   (try((repeat(revert hN;revert N;apply Pn.out));refine wk (tw @d34 (tw @dg0 (tw @d1 (tw @d8 (tw @d9 (tw @d10 (tw @d25 (tw @d26 (tw @d27 (tw @d32 (tw @d33 (tw @hm (tw @hi (tw @s6 @Dw)))))))))))))) ?_;(repeat(refine Pn.mk ?_;intro N hN))))
   refine gN ?_ ?_ (by(try dsimp only);omega)
   all_goals simp only[go_sem, ↓reduceIte,Nat.reduceEqDiff,Nat.reduceAdd,Nat.reduceSub,Nat.reduceLeDiff,reduceCtorEq,c27,cg0,c1,c8,c9,x8,x9,d34,dg0,d1,d8,d9,d10,d25,d26,d27,d32,d33,pN]
 have mj:i=(leads cnt L).length:=by omega
 subst mj
 have qx:ef (di cnt L (leads cnt L).length 0) cnt=ef (cu L) cnt:=ik fun x hx=>by rw[di,if_pos (kn hL hx)]
 rw[qx]at cg0
 have tl:=gF (cu L) cnt
 (try((repeat(revert hN;revert N;apply Pn.out));refine wk (tw @c27 (tw @cg0 (tw @c1 (tw @c8 (tw @c9 (tw @x8 (tw @x9 (tw @hi @s6)))))))) ?_;(repeat(refine Pn.mk ?_;intro N hN))))
 refine aX (fun n env st=>∃j:Nat,n=(0)-j/\j<=(0)/\env 46=.int .i64 (j:Int)/\env 14=.cj) (0) ⟨0,by omega,by omega,sl (tw @c27 (tw @cg0 (tw @c1 (tw @c8 (tw @c9 (tw @x8 @x9)))))),sl (tw @c27 (tw @cg0 (tw @c1 (tw @c8 (tw @c9 (tw @x8 @x9))))))⟩ ?_
 rintro n_f env_f st_f ⟨j,rfl,fle,f46,f14⟩ ffr
 have f8:=ffr 8 (by kernel_rfl);have f44:=ffr 44 (by kernel_rfl);have f45:=ffr 45 (by kernel_rfl)
 simp only[go_sem, ↓reduceIte,Nat.reduceEqDiff,Nat.reduceAdd,Nat.reduceSub,Nat.reduceLeDiff,reduceCtorEq,c27,cg0,c1,c8,c9,x8,x9]at f8 f44 f45
 clear ffr
 have hj:¬(j:Int)<((0:Nat):Int):=by omega
 (try((repeat(revert hN;revert N;apply Pn.out));refine wk (tw @f46 (tw @f14 (tw @f8 (tw @f44 (tw @f45 (tw @hj @s6)))))) ?_;(repeat(refine Pn.mk ?_;intro N hN))))
 refine jE (.inl rfl) (r1:=.int .i64 ((leads cnt L).length:Int)) (r2:=.cj) (sd @Nat.zero_add) (sd @Nat.zero_add) ?_
 simp only[fF,bV,cY,eL,k9,Sh,Option.map_some]
theorem zS (cnt:Nat) (Al:1<=cnt) (hn:cnt<=1048576) (bs:List PB) (hb:∀b∈bs,b.a<cnt/\b.b<cnt) (od:bs.length<=1048576) (t:Int):aw Tryz.prog 287 [.int .i64 cnt,AS bs,.int .i64 t] (.iA [.int .i64 (leads cnt (eJ (aV t bs))).length,AS (dL (eJ (aV t bs)) bs)]):=by
 cases bs with
 |nil=>
  have h:=ya cnt Al hn t
  have Sh:(leads cnt (eJ (aV t []))).length=cnt:=by
   show(leads cnt id).length=cnt
   rw[leads,List.filter_eq_self.2 (fun a _=>by simp)];simp
  rw[Sh]
  exact h
 |cons b r=>
  rw[AU (by simp)]
  exact yc cnt Al hn (b::r) hb (by simp) od t
end Go.Proofs.YtgoljkjaameagaaGreat.V

namespace Go.Proofs.YtgoljkjaameagaaGreat.V
open Go.RowKit
attribute [local irreducible] ek wpOps fK Call
attribute [local go_sem] aI fw eH fE fD dd upd cm K.av cG AV.cells AV.cell rowOf rowsOf part ld rowAt bL bY dx dO gz bE cW dY fC eY dj dS cU cR dG dH bH aZ cJ bG cL cK dQ dU dR cI bJ cV dP bF aL cP cz gy bq cF bI aW dq bm dy AV.undef bw bz dJ dM dD dI cE dX ea cq dW dV cN cQ List.getD_cons_zero List.getD_cons_succ List.getD_nil List.all_cons List.all_nil Bool.and_true Bool.true_and Bool.and_self Bool.not_true Bool.not_false Option.map_some Option.map_none Option.bind_some Option.bind_none List.length_cons List.length_nil List.take_succ_cons List.take_zero List.take_nil List.drop_succ_cons List.drop_zero List.drop_nil List.head?_cons List.map_cons List.map_nil List.getElem?_cons_zero List.getElem?_cons_succ List.cons_append List.nil_append List.append_nil List.length_map List.set_cons_zero List.set_cons_succ Nat.reduceMul eq_self Int.toNat_natCast Int.natCast_nonneg and_self true_and and_true decide_true decide_false Bool.false_eq_true Nat.zero_add Nat.add_zero List.contains_cons List.contains_nil Bool.or_false Bool.false_or beq_self_eq_true Nat.reduceBEq ne_eq not_true_eq_false not_false_eq_true Id.mk.injEq false_and and_false Nat.reduceLT Int.reduceLE Int.reduceLT Int.reduceToNat Int.reduceNeg Int.reduceAdd Nat.le_refl List.length_append beq_true beq_false Bool.not_eq_eq_eq_not or_false false_or dK aq au aH bf bt bZ aU bh aT bc cH bx
attribute [local go_sem] GW
section
attribute [-go_sem] dx
theorem NU (n:Nat) (hn:n<=1048576):aw Tryz.prog 340 [.int .u64 1,.int .u64 n] (.iA [.int .u64 0,.int .u64 n]):=by
 refine aw.body eK rfl fun hl n0=>?_
 clear hl
 have b1:(BitVec.ofInt 64 (n:Int)&&& BitVec.ofInt 64 4294967295).toNat=n:=by
  rw[BitVec.toNat_and]
  have e1:(BitVec.ofInt 64 (n:Int)).toNat=n:=by rw[BitVec.toNat_ofInt];omega
  have e2:(BitVec.ofInt 64 4294967295).toNat=2 ^ 32-1:=by decide
  rw[e1,e2]
  exact Nat.and_two_pow_sub_one_of_lt_two_pow (by omega)
 have zn:IntKind.u64.wrap (n:Int)=n:=by rw[IntKind.wrap_u64];omega
 have i1:dx .and .u64 (n:Int) 4294967295=some (.int .u64 n):=by
  show some (AV.int .u64 (IntKind.u64.wrap (((BitVec.ofInt 64 (n:Int)&&& BitVec.ofInt 64 4294967295).toNat:Nat):Int)))= _
  rw[b1,zn]
 have i2:dx .and .u64 1 4294967295=some (.int .u64 1):=rfl
 have i3:dx .and .u64 0 4294967295=some (.int .u64 0):=rfl
 have i4:dx .mul .u64 1 (n:Int)=some (.int .u64 n):=by simp only[dx,Int.one_mul,zn]
 have i5:dx .mul .u64 0 (n:Int)=some (.int .u64 0):=by simp only[dx,Int.zero_mul];rfl
 have i6:dx .mul .u64 1 0=some (.int .u64 0):=rfl
 have i7:dx .mul .u64 0 0=some (.int .u64 0):=rfl
 have i8:dx .add .u64 0 0=some (.int .u64 0):=rfl
 have a3:Int.fdiv 1 (2 ^ min 32 64)=0:=by decide
 have a4:Int.fdiv (n:Int) (2 ^ min 32 64)=0:=by
  rw[Int.fdiv_eq_ediv_of_nonneg _ (by decide)]
  have h32:(2:Int) ^ min 32 64=4294967296:=by decide
  exact Int.ediv_eq_zero_of_lt (by omega) (by omega)
 have z1:Int.fdiv 0 (2 ^ min 32 64)=0:=by decide
 (try((repeat(revert hN;revert N;apply Pn.out));refine wk (tw @i1 (tw @i2 (tw @i3 (tw @i4 (tw @i5 (tw @i6 (tw @i7 (tw @i8 (tw @a3 (tw @a4 @z1)))))))))) ?_;(repeat(refine Pn.mk ?_;intro N hN))))
 refine jE (.inl rfl) (r1:=.int .u64 0) (r2:=.int .u64 n) (sd @Nat.zero_add) (sd @Nat.zero_add) ?_
 simp only[fF,bV,cY,eL,Option.map_some]
end
theorem Up (n:Nat) (hn:n<=1048576):aw Tryz.prog 337 [.int .u64 1,.int .u64 n] (.iA [.int .u64 0,.int .u64 n]):=by
 refine aw.body eK rfl fun hl n0=>?_
 clear hl
 have h:=NU n hn
 (repeat(first|((repeat(revert hN;revert N;apply Pn.out));refine wk @Nat.zero_add ?_;(repeat(refine Pn.mk ?_;intro N hN)))|((try apply Or.inl);refine⟨_,aw.x (h) (sd @Nat.zero_add),?_⟩;refine hN _ _ ?_;clear hN N)))
 refine jE (.inl rfl) (r1:=.int .u64 0) (r2:=.int .u64 n) (sd @Nat.zero_add) (sd @Nat.zero_add) ?_
 simp only[fF,bV,cY,eL,Option.map_some]
theorem Li (cnt:Nat) (Al:1<=cnt) (hn:cnt<=1048576) (v:Int) (x:Id) (σ:ay) (hx:σ.get x=some ⟨true,1,[[.int .i64 v]]⟩) (XN:x.br<σ.next):
  Call Tryz.prog 327 [.own x 0 1,.int .i64 cnt] σ fun r σ'=>∃o:Id,r=.own o 0 cnt/\σ'.get o=some ⟨true,1,List.replicate cnt [.int .i64 v]⟩/\σ.next<=o.br/\o.br<σ'.next/\∀i:Id,i.br<σ.next->σ'.get i=σ.get i:=by
 refine e6 eK rfl fun hl=>?_
 clear hl
 have h:=Up cnt hn
 have w1:IntKind.u64.wrap (cnt:Int)=cnt:=by rw[IntKind.wrap_u64];omega
 have w2:IntKind.i64.wrap (cnt:Int)=cnt:=LV (by omega)
 have w0:IntKind.u64.wrap ((1:Nat):Int)=1:=by decide
 have g1:¬(cnt:Int)<0:=by omega
 have g2:¬(9223372036854775807:Int)<cnt:=by omega
 have jO:(0:Int)<=(cnt:Int):=by omega
 have qi:(cnt:Int)<=((16777216:Nat):Int):=by omega
 have Ss:=dr XN
 have pP:(List.replicate cnt [AV.int .i64 0]).length=cnt:=List.length_replicate
 have m1:min 1 cnt=1:=by omega
 (repeat(first|((repeat(revert hN;revert N;apply Pn.out));refine wk (tw @w0 (tw @w1 (tw @w2 (tw @g1 (tw @g2 (tw @jO (tw @qi (tw @Int.le_refl (tw @Nat.le_refl (tw @hx (tw @Ss (tw @pP @m1)))))))))))) ?_;(repeat(refine Pn.mk ?_;intro N hN)))|((try apply Or.inl);refine⟨_,aw.x (h) (sd (tw @w0 (tw @w1 (tw @w2 (tw @g1 (tw @g2 (tw @jO (tw @qi (tw @Int.le_refl (tw @Nat.le_refl (tw @hx (tw @Ss (tw @pP @m1))))))))))))),?_⟩;refine hN _ _ ?_;clear hN N)))
 refine aX (fun m env st=>∃k:Nat,m=cnt-k/\1<=k/\k<=cnt/\env 8=.int .i64 (k:Int)/\st.get ⟨327006002,σ.next+1+1+1+1⟩=some ⟨true,1,List.replicate k [.int .i64 v]++List.replicate (cnt-k) [.int .i64 0]⟩/\σ.next+4<st.next/\∀i:Id,i.br<σ.next->st.get i=σ.get i) (cnt-1) ⟨1,rfl,Nat.le_refl _,Al,by(simp only[go_sem, ↓reduceIte,Nat.reduceEqDiff,Nat.reduceAdd,Nat.reduceSub,Nat.reduceLeDiff,reduceCtorEq,m1])<;>rfl,?_,by(try dsimp only);omega,fun i hi=>?_⟩ ?_
 ·simp only[go_sem, ↓reduceIte,Nat.reduceEqDiff,Nat.reduceAdd,Nat.reduceSub,Nat.reduceLeDiff,reduceCtorEq]
  rw[List.drop_replicate];rfl
 ·have ES:=dr hi
  simp only[go_sem, ↓reduceIte,Nat.reduceEqDiff,Nat.reduceAdd,Nat.reduceSub,Nat.reduceLeDiff,reduceCtorEq,ES]
 rintro m env_b st_b ⟨k,rfl,pc,tr,b8,bg,bn,eX⟩ bkp
 have b7:=bkp 7 (by kernel_rfl)
 simp only[go_sem, ↓reduceIte,Nat.reduceEqDiff,Nat.reduceAdd,Nat.reduceSub,Nat.reduceLeDiff,reduceCtorEq]at b7
 clear bkp
 have T4:(List.replicate k [AV.int .i64 v]++List.replicate (cnt-k) [AV.int .i64 0]).length=cnt:=by simp;omega
 by_cases hk:(k:Int)<(cnt:Int)
 ·have fm:k<cnt:=by omega
  have ue:(k:Int)<=(cnt:Int):=by omega
  have hw:IntKind.i64.wrap ((k:Int)+((min k (cnt-k):Nat):Int))=((k+min k (cnt-k):Nat):Int):=by rw[bK (by omega)];omega
  have lR:List.take k (List.replicate k [AV.int .i64 v]++List.replicate (cnt-k) [AV.int .i64 0])=List.replicate k [AV.int .i64 v]:=List.take_left' (by simp)
  have eh:(List.replicate k [AV.int .i64 v]).all (fun c=>c.length==1&&c.all AV.cell)=true:=List.all_eq_true.2 fun c hc=>by rw[List.eq_of_mem_replicate hc];rfl
  have hlr:(List.replicate k [AV.int .i64 v]).length=k:=List.length_replicate
  have HP:k+(cnt-k)=cnt:=by omega
  have so:List.replicate k [AV.int .i64 v]++List.take (min k (cnt-k)) (List.replicate k [AV.int .i64 v])++List.drop (k+min k (cnt-k)) (List.replicate k [AV.int .i64 v]++List.replicate (cnt-k) [AV.int .i64 0])=List.replicate (k+min k (cnt-k)) [AV.int .i64 v]++List.replicate (cnt-(k+min k (cnt-k))) [AV.int .i64 0]:=by
   rw[List.take_replicate,List.drop_append,List.drop_of_length_le (by simp),List.nil_append,hlr,List.drop_replicate,List.replicate_append_replicate]
   congr 2
   ·omega
   ·omega
  (try((repeat(revert hN;revert N;apply Pn.out));refine wk (tw @b7 (tw @b8 (tw @bg (tw @T4 (tw @hk (tw @ue (tw @tr (tw @hw (tw @fm (tw @Nat.sub_zero (tw @lR (tw @eh (tw @hlr (tw @HP (tw @Nat.le_refl @so))))))))))))))) ?_;(repeat(refine Pn.mk ?_;intro N hN))))
  refine⟨_,?_,k+min k (cnt-k),rfl,by omega,by omega,sd @hw,sd @so,by(try dsimp only);omega,fun i hi=>?_⟩
  ·omega
  ·have ES:=dr hi
   have:=eX i hi
   simp only[go_sem, ↓reduceIte,Nat.reduceEqDiff,Nat.reduceAdd,Nat.reduceSub,Nat.reduceLeDiff,reduceCtorEq,ES,this]
 ·have kM:k=cnt:=by omega
  subst kM
  (try((repeat(revert hN;revert N;apply Pn.out));refine wk (tw @b7 (tw @b8 (tw @bg (tw @T4 @hk)))) ?_;(repeat(refine Pn.mk ?_;intro N hN))))
  refine fe (.inl rfl) (vs:=[.own ⟨327006002,σ.next+1+1+1+1⟩ 0 k]) (sd @Nat.zero_add) ⟨⟨327006002,σ.next+1+1+1+1⟩,rfl,by simp only[go_sem, ↓reduceIte,Nat.reduceEqDiff,Nat.reduceAdd,Nat.reduceSub,Nat.reduceLeDiff,reduceCtorEq,bg];simp,by(try dsimp only);omega,by(try dsimp only);omega,fun i hi=>eX i hi⟩
end Go.Proofs.YtgoljkjaameagaaGreat.V
