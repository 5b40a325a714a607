/- The reference's networks: one is made. -/
import Derived.Test.YtgoljkjaameagaaGreatRkC
import Derived.Test.YtgoljkjaameagaaGreatRkB
import Derived.Shelf.SlSortCmp.WholeK
import Derived.Shelf.SlSortCmp.NoneTotal
import Derived.Ground.SlsfProg
import Derived.Test.YtgoljkjaameagaaGreatProg
import Derived.Maps.RangeRun
import Derived.Test.YtgoljkjaameagaaGreatChecked
set_option linter.unusedVariables false
set_option linter.unusedSimpArgs false
set_option maxRecDepth 100000
set_option maxHeartbeats 16000000
namespace Go.Proofs.YtgoljkjaameagaaGreat.V
open Go.RowKit
attribute [local irreducible] dE wpOps fS Call
attribute [local go_sem] aH fq eG fH fG cX upd bZ K.av cD AV.cells AV.cell rowOf rowsOf part ld rowAt br bP dn dR gK bx cQ eb fD eS di dW cN cL dH dI bD aW cF bB cH cG dU dX dV cE bG cP dS bz aI cJ cq gJ bj cz bE aT de aX dp AV.undef bq bt dL dQ dB dz cw ea ee cj dZ dY cI cK List.getD_cons_zero List.getD_cons_succ List.getD_nil List.all_cons List.all_nil Bool.and_true Bool.true_and Bool.and_self Bool.not_true Bool.not_false Option.map_some Option.map_none Option.bind_some Option.bind_none List.length_cons List.length_nil List.take_succ_cons List.take_zero List.take_nil List.drop_succ_cons List.drop_zero List.drop_nil List.head?_cons List.map_cons List.map_nil List.getElem?_cons_zero List.getElem?_cons_succ List.cons_append List.nil_append List.append_nil List.length_map List.set_cons_zero List.set_cons_succ Nat.reduceMul eq_self Int.toNat_natCast Int.natCast_nonneg and_self true_and and_true decide_true decide_false Bool.false_eq_true Nat.zero_add Nat.add_zero List.contains_cons List.contains_nil Bool.or_false Bool.false_or beq_self_eq_true Nat.reduceBEq ne_eq not_true_eq_false not_false_eq_true Id.mk.injEq false_and and_false Nat.reduceLT Int.reduceLE Int.reduceLT Int.reduceToNat Int.reduceNeg Int.reduceAdd Nat.le_refl List.length_append beq_true beq_false Bool.not_eq_eq_eq_not or_false false_or dD ah aq aF aY bp bK aP bc aN aV cC bF
theorem Jj (cnt:Nat) (hn:cnt<=1048576) (bs:List PB) (ok:nB cnt bs) (nX:bs.length<=1048576) (σ:aw):
  Call Tryz.prog 251 [.int .i64 cnt,.sl (bs.map aA)] σ fun r σ'=>∃X A F,r=.ptr X 0 0/\σ.next<=X.bY/\oe cnt bs (fun _=>0) X A F σ'.get σ'.next:=by
 refine CN NL rfl fun hl=>?_
 try simp only[q]
 clear hl
 have jL:(0:Int)<=(cnt:Int):=by omega
 have qa:(cnt:Int)<=((16777216:Nat):Int):=by omega
 have QQ:(0:Int)<=(bs.length:Int):=by omega
 have KE:(bs.length:Int)<=((16777216:Nat):Int):=by omega
 have hz:List.replicate bs.length [AV.int .i64 0]=eo (fun _=>0) bs.length:=by
  refine List.ext_getElem? fun i=>?_
  by_cases h:i<bs.length
  ·rw[ef h,List.getElem?_replicate,if_pos h];rfl
  ·rw[List.getElem?_eq_none (by simp;omega),List.getElem?_eq_none (by rw[dM];omega)]
 (try((repeat(revert hN;revert N;apply Pn.out));refine wk (tw @jL (tw @qa (tw @QQ (tw @KE (tw @Int.le_refl @hz))))) ?_;(repeat(refine Pn.mk ?_;intro N hN))))
 obtain⟨X,hX⟩:∃X:Id,X=⟨251001003,σ.next+1⟩:=⟨_,rfl⟩
 obtain⟨A,hA⟩:∃X:Id,X=⟨251002002,σ.next+1+1⟩:=⟨_,rfl⟩
 obtain⟨F,hF⟩:∃X:Id,X=⟨251003003,σ.next+1+1+1⟩:=⟨_,rfl⟩
 have hXA:X.bY<A.bY:=by rw[hX,hA];(try dsimp only);omega
 have hAF:A.bY<F.bY:=by rw[hA,hF];(try dsimp only);omega
 have hXs:σ.next<=X.bY:=by rw[hX];(try dsimp only);omega
 refine aZ (fun n env st=>∃j:Nat,n=(bs.length)-j/\j<=(bs.length)/\env 6=.int .i64 (j:Int)/\env 5=(.ptr X 0 0)/\st.get X=some ⟨true,4,[bH cnt bs A F]⟩/\st.get F=some ⟨true,1,eo (fun _=>0) bs.length⟩/\(qU A F.bY (lD cnt bs j) st.get st.next/\F.bY<st.next)) (bs.length) ⟨0,by omega,by omega,by(try simp only[go_sem, ↓reduceIte,Nat.reduceEqDiff,Nat.reduceAdd,Nat.reduceSub,Nat.reduceLeDiff,reduceCtorEq,hX,hF,hA,bH,hz]);try rfl,by(try simp only[go_sem, ↓reduceIte,Nat.reduceEqDiff,Nat.reduceAdd,Nat.reduceSub,Nat.reduceLeDiff,reduceCtorEq,hX,hF,hA,bH,hz]);try rfl,by(try simp only[go_sem, ↓reduceIte,Nat.reduceEqDiff,Nat.reduceAdd,Nat.reduceSub,Nat.reduceLeDiff,reduceCtorEq,hX,hF,hA,bH,hz]);try rfl,by(try simp only[go_sem, ↓reduceIte,Nat.reduceEqDiff,Nat.reduceAdd,Nat.reduceSub,Nat.reduceLeDiff,reduceCtorEq,hX,hF,hA,bH,hz]);try rfl,⟨⟨List.replicate cnt [.cm],[],by rw[hA];(simp only[go_sem, ↓reduceIte,Nat.reduceEqDiff,Nat.reduceAdd,Nat.reduceSub,Nat.reduceLeDiff,reduceCtorEq])<;>rfl,by rw[Gr];exact yW _ _,List.nodup_nil,fun i hi=>by cases hi⟩,by rw[hF];(try dsimp only);omega⟩⟩ ?_
 rintro n_a env_a st_a ⟨j,rfl,ale,a6,a5,ag0,ag1,qQ⟩ ez
 have a0:=ez 0 (by kernel_rfl);have a1:=ez 1 (by kernel_rfl)
 simp only[go_sem, ↓reduceIte,Nat.reduceEqDiff,Nat.reduceAdd,Nat.reduceSub,Nat.reduceLeDiff,reduceCtorEq,hX,hF,hA,bH,hz]at a0 a1
 clear ez
 obtain⟨⟨rows,ids,ag,hR,pr,nV⟩,hFn⟩:=qQ
 have x1:=cZ hXA
 have x2:=cZ hAF
 have x3:=cZ (a:=X) (b:=F) (by omega)
 have vX:=dP (i:=X) (n:=st_a.next) (by omega)
 have vA:=dP (i:=A) (n:=st_a.next) (by omega)
 have vF:=dP (i:=F) (n:=st_a.next) (by omega)
 by_cases hj:(j:Int)<(bs.length:Int)
 ·have dd:∀{e:Env} {gg:Rows} {nx:Nat},(e 6=.int .i64 (IntKind.i64.wrap ((j:Int)+1)))->(e 5=(.ptr X 0 0))->(gg X=some ⟨true,4,[bH cnt bs A F]⟩)->(gg F=some ⟨true,1,eo (fun _=>0) bs.length⟩)->(qU A F.bY (lD cnt bs (j+1)) gg nx/\F.bY<nx)->∃m0,m0<(bs.length)-j/\∃j:Nat,m0=(bs.length)-j/\j<=(bs.length)/\e 6=.int .i64 (j:Int)/\e 5=(.ptr X 0 0)/\gg X=some ⟨true,4,[bH cnt bs A F]⟩/\gg F=some ⟨true,1,eo (fun _=>0) bs.length⟩/\(qU A F.bY (lD cnt bs j) gg nx/\F.bY<nx):=fun x1 x2 x3 x4 x5=>⟨_,by omega,j+1,rfl,by omega,(by rw[x1,az (by omega)]),x2,x3,x4,x5⟩
  have nR:j<bs.length:=by omega
  have iR:=uk nR
  obtain⟨ha1,QR,ik⟩:=ok j nR
  have gM:((cr bs j).a:Int)<(cnt:Int):=by omega
  have fV:((cr bs j).b:Int)<(cnt:Int):=by omega
  have qz:=Gq (m:=j) ha1 QR ik
  have e1:=rM bs j (cr bs j).a
  have e2:=rM bs j (cr bs j).b
  have Q6:(xF cnt bs j)[(cr bs j).b]? =some (jc bs j (cr bs j).b):=BJ QR ik
  have xg:(lD cnt bs j)[(cr bs j).a]? =some (jc bs j (cr bs j).a):=by simp[lD,ha1]
  have TB:xF cnt bs j=(lD cnt bs j).set (cr bs j).a (jc bs j (cr bs j).a++[j]):=rfl
  have PY:(xF cnt bs j).length=cnt:=by rw[TB,List.length_set,jw]
  have jj:=hR.len
  rw[jw]at jj
  obtain⟨cs7,ju,IE,IU⟩:=Fs (A:=A) (K:=⟨251007022,st_a.next+1⟩) (nx:=st_a.next+1+1) (j:=j) hR pr nV (by omega) xg (by(try dsimp only);omega) (by(try dsimp only);omega) hFn
  rw[<-TB]at IU
  obtain⟨c7,rfl⟩:∃c,cs7=[c]:=by
   rcases IE with⟨_,h⟩|⟨id,h,_⟩<;>exact⟨_,h⟩
  generalize jc bs j (cr bs j).a=La at *
  generalize jc bs j (cr bs j).b=Lb at *
  generalize cr bs j=b at *
  generalize xF cnt bs j=LA at *
  clear TB
  (try((repeat(revert hN;revert N;apply Pn.out));refine wk (tw @a6 (tw @a5 (tw @ag0 (tw @ag1 (tw @a0 (tw @a1 (tw @hj (tw @iR (tw @aA.eq_1 (tw @ag (tw @ju (tw @gM (tw @fV (tw @jj (tw @x1 (tw @x2 (tw @x3 (tw @vX (tw @vA (tw @vF @bH.eq_1)))))))))))))))))))) ?_;(repeat(refine Pn.mk ?_;intro N hN))))
  refine Kr (fun e s=>e 0=.int .i64 cnt/\e 1=.sl (bs.map aA)/\e 5=.ptr X 0 0/\e 6=.int .i64 j/\s.get X=some ⟨true,4,[bH cnt bs A F]⟩/\s.get F=some ⟨true,1,eo (fun _=>0) bs.length⟩/\qU A F.bY LA s.get s.next/\F.bY<s.next) ?_ ?_
  ·rintro e1 s1 ⟨m0,m1,m5,m6,mX,mF,⟨rows1,ids1,mg,mR,mnd,mver⟩,mn⟩
   refine hN _ _ ?_
   clear hN N
   have jk:=mR.len
   rw[PY]at jk
   have wX:=dP (i:=X) (n:=s1.next) (by omega)
   have wA:=dP (i:=A) (n:=s1.next) (by omega)
   have wF:=dP (i:=F) (n:=s1.next) (by omega)
   obtain⟨cs8,jv,IF,IV⟩:=Fs (A:=A) (K:=⟨251008022,s1.next⟩) (nx:=s1.next+1) (j:=j) mR mnd mver (by omega) Q6 (by(try dsimp only);omega) (by(try dsimp only);omega) mn
   rw[qz]at IV
   obtain⟨c8,rfl⟩:∃c,cs8=[c]:=by
    rcases IF with⟨_,h⟩|⟨id,h,_⟩<;>exact⟨_,h⟩
   (try((repeat(revert hN;revert N;apply Pn.out));refine wk (tw @m0 (tw @m1 (tw @m5 (tw @m6 (tw @mX (tw @mF (tw @hj (tw @iR (tw @aA.eq_1 (tw @mg (tw @jv (tw @gM (tw @fV (tw @jk (tw @x1 (tw @x2 (tw @x3 (tw @wX (tw @wA (tw @wF @bH.eq_1)))))))))))))))))))) ?_;(repeat(refine Pn.mk ?_;intro N hN))))
   refine Mu (fun e s=>e 0=.int .i64 cnt/\e 1=.sl (bs.map aA)/\e 5=.ptr X 0 0/\e 6=.int .i64 j/\s.get X=some ⟨true,4,[bH cnt bs A F]⟩/\s.get F=some ⟨true,1,eo (fun _=>0) bs.length⟩/\qU A F.bY (lD cnt bs (j+1)) s.get s.next/\F.bY<s.next) ?_ ?_
   ·rintro e2 s2 ⟨p0,p1,p5,p6,pX,pF,pL,pn⟩
    simp only[de,aX]
    refine hN _ _ ?_
    clear hN N
    (try((repeat(revert hN;revert N;apply Pn.out));refine wk (tw @p0 (tw @p1 (tw @p5 @p6))) ?_;(repeat(refine Pn.mk ?_;intro N hN))))
    refine dd ?_ ?_ ?_ ?_ (⟨by obtain⟨r,i,q1,q2,q3,q4⟩:=pL;exact⟨r,i,sd @q1,q2,q3,fun x hx=>by have:=q4 x hx;(try dsimp only);omega⟩,by(try dsimp only);omega⟩)
    all_goals simp only[go_sem, ↓reduceIte,Nat.reduceEqDiff,Nat.reduceAdd,Nat.reduceSub,Nat.reduceLeDiff,reduceCtorEq,p0,p1,p5,p6,pX,pF]
   ·intro N hN
    rcases IF with⟨QK,Bv⟩|⟨id,Bv,hLp,hid,Lr,yg⟩
    ·simp only[List.cons.injEq,and_true]at Bv
     subst Bv
     subst QK
     refine fb ?_ ?_<;>(try((repeat(revert hN;revert N;apply Pn.out));refine wk (tw @m0 (tw @m1 (tw @m5 (tw @m6 (tw @mX (tw @mF (tw @hj (tw @iR (tw @aA.eq_1 (tw @mg (tw @jv (tw @gM (tw @fV (tw @jk (tw @x1 (tw @x2 (tw @x3 (tw @wX (tw @wA (tw @wF @bH.eq_1)))))))))))))))))))) ?_;(repeat(refine Pn.mk ?_;intro N hN))))<;>(try refine fb ?_ ?_)<;>(try((repeat(revert hN;revert N;apply Pn.out));refine wk (tw @m0 (tw @m1 (tw @m5 (tw @m6 (tw @mX (tw @mF (tw @hj (tw @iR (tw @aA.eq_1 (tw @mg (tw @jv (tw @gM (tw @fV (tw @jk (tw @x1 (tw @x2 (tw @x3 (tw @wX (tw @wA (tw @wF @bH.eq_1)))))))))))))))))))) ?_;(repeat(refine Pn.mk ?_;intro N hN))))<;>(try refine fb ?_ ?_)<;>(try((repeat(revert hN;revert N;apply Pn.out));refine wk (tw @m0 (tw @m1 (tw @m5 (tw @m6 (tw @mX (tw @mF (tw @hj (tw @iR (tw @aA.eq_1 (tw @mg (tw @jv (tw @gM (tw @fV (tw @jk (tw @x1 (tw @x2 (tw @x3 (tw @wX (tw @wA (tw @wF @bH.eq_1)))))))))))))))))))) ?_;(repeat(refine Pn.mk ?_;intro N hN))))<;>(try refine fb ?_ ?_)<;>(try((repeat(revert hN;revert N;apply Pn.out));refine wk (tw @m0 (tw @m1 (tw @m5 (tw @m6 (tw @mX (tw @mF (tw @hj (tw @iR (tw @aA.eq_1 (tw @mg (tw @jv (tw @gM (tw @fV (tw @jk (tw @x1 (tw @x2 (tw @x3 (tw @wX (tw @wA (tw @wF @bH.eq_1)))))))))))))))))))) ?_;(repeat(refine Pn.mk ?_;intro N hN))))<;>(try refine fb ?_ ?_)<;>(try((repeat(revert hN;revert N;apply Pn.out));refine wk (tw @m0 (tw @m1 (tw @m5 (tw @m6 (tw @mX (tw @mF (tw @hj (tw @iR (tw @aA.eq_1 (tw @mg (tw @jv (tw @gM (tw @fV (tw @jk (tw @x1 (tw @x2 (tw @x3 (tw @wX (tw @wA (tw @wF @bH.eq_1)))))))))))))))))))) ?_;(repeat(refine Pn.mk ?_;intro N hN))))<;>(try refine fb ?_ ?_)<;>(try((repeat(revert hN;revert N;apply Pn.out));refine wk (tw @m0 (tw @m1 (tw @m5 (tw @m6 (tw @mX (tw @mF (tw @hj (tw @iR (tw @aA.eq_1 (tw @mg (tw @jv (tw @gM (tw @fV (tw @jk (tw @x1 (tw @x2 (tw @x3 (tw @wX (tw @wA (tw @wF @bH.eq_1)))))))))))))))))))) ?_;(repeat(refine Pn.mk ?_;intro N hN))))
     all_goals
      refine⟨by simp only[go_sem, ↓reduceIte,Nat.reduceEqDiff,Nat.reduceAdd,Nat.reduceSub,Nat.reduceLeDiff,reduceCtorEq,m0,m1,m5,m6,mX,mF,hj,iR,aA,mg,jv,gM,fV,jk,x1,x2,x3,wX,wA,wF,bH],by simp only[go_sem, ↓reduceIte,Nat.reduceEqDiff,Nat.reduceAdd,Nat.reduceSub,Nat.reduceLeDiff,reduceCtorEq,m0,m1,m5,m6,mX,mF,hj,iR,aA,mg,jv,gM,fV,jk,x1,x2,x3,wX,wA,wF,bH],by simp only[go_sem, ↓reduceIte,Nat.reduceEqDiff,Nat.reduceAdd,Nat.reduceSub,Nat.reduceLeDiff,reduceCtorEq,m0,m1,m5,m6,mX,mF,hj,iR,aA,mg,jv,gM,fV,jk,x1,x2,x3,wX,wA,wF,bH],by simp only[go_sem, ↓reduceIte,Nat.reduceEqDiff,Nat.reduceAdd,Nat.reduceSub,Nat.reduceLeDiff,reduceCtorEq,m0,m1,m5,m6,mX,mF,hj,iR,aA,mg,jv,gM,fV,jk,x1,x2,x3,wX,wA,wF,bH],by simp only[go_sem, ↓reduceIte,Nat.reduceEqDiff,Nat.reduceAdd,Nat.reduceSub,Nat.reduceLeDiff,reduceCtorEq,m0,m1,m5,m6,mX,mF,hj,iR,aA,mg,jv,gM,fV,jk,x1,x2,x3,wX,wA,wF,bH],by simp only[go_sem, ↓reduceIte,Nat.reduceEqDiff,Nat.reduceAdd,Nat.reduceSub,Nat.reduceLeDiff,reduceCtorEq,m0,m1,m5,m6,mX,mF,hj,iR,aA,mg,jv,gM,fV,jk,x1,x2,x3,wX,wA,wF,bH],IV _ (by simp only[go_sem, ↓reduceIte,Nat.reduceEqDiff,Nat.reduceAdd,Nat.reduceSub,Nat.reduceLeDiff,reduceCtorEq,m0,m1,m5,m6,mX,mF,hj,iR,aA,mg,jv,gM,fV,jk,x1,x2,x3,wX,wA,wF,bH,List.length_nil]) (by simp only[go_sem, ↓reduceIte,Nat.reduceEqDiff,Nat.reduceAdd,Nat.reduceSub,Nat.reduceLeDiff,reduceCtorEq,m0,m1,m5,m6,mX,mF,hj,iR,aA,mg,jv,gM,fV,jk,x1,x2,x3,wX,wA,wF,bH,List.map_nil,List.nil_append]) (fun i hi Ou fc=>?_),by(try dsimp only);omega⟩
      clear fc
      simp only[go_sem, ↓reduceIte,Nat.reduceEqDiff,Nat.reduceAdd,Nat.reduceSub,Nat.reduceLeDiff,reduceCtorEq,wX,wA,wF,dP hi,Ou]
    ·simp only[List.cons.injEq,and_true]at Bv
     subst Bv
     have sa:=dP Lr
     have y1:=cZ (a:=A) (b:=id) (by omega)
     have y2:=cZ (a:=F) (b:=id) yg
     have y3:=cZ (a:=X) (b:=id) (by omega)
     have e3:Lb.length+1<=16777216:=by omega
     have z1:(Lb.map eN).length=Lb.length:=by simp
     refine fb ?_ ?_<;>(try((repeat(revert hN;revert N;apply Pn.out));refine wk (tw @m0 (tw @m1 (tw @m5 (tw @m6 (tw @mX (tw @mF (tw @hj (tw @iR (tw @aA.eq_1 (tw @mg (tw @jv (tw @gM (tw @fV (tw @jk (tw @x1 (tw @x2 (tw @x3 (tw @wX (tw @wA (tw @wF (tw @bH.eq_1 (tw @hid (tw @sa (tw @y1 (tw @y2 (tw @y3 (tw @e3 @z1))))))))))))))))))))))))))) ?_;(repeat(refine Pn.mk ?_;intro N hN))))<;>(try refine fb ?_ ?_)<;>(try((repeat(revert hN;revert N;apply Pn.out));refine wk (tw @m0 (tw @m1 (tw @m5 (tw @m6 (tw @mX (tw @mF (tw @hj (tw @iR (tw @aA.eq_1 (tw @mg (tw @jv (tw @gM (tw @fV (tw @jk (tw @x1 (tw @x2 (tw @x3 (tw @wX (tw @wA (tw @wF (tw @bH.eq_1 (tw @hid (tw @sa (tw @y1 (tw @y2 (tw @y3 (tw @e3 @z1))))))))))))))))))))))))))) ?_;(repeat(refine Pn.mk ?_;intro N hN))))<;>(try refine fb ?_ ?_)<;>(try((repeat(revert hN;revert N;apply Pn.out));refine wk (tw @m0 (tw @m1 (tw @m5 (tw @m6 (tw @mX (tw @mF (tw @hj (tw @iR (tw @aA.eq_1 (tw @mg (tw @jv (tw @gM (tw @fV (tw @jk (tw @x1 (tw @x2 (tw @x3 (tw @wX (tw @wA (tw @wF (tw @bH.eq_1 (tw @hid (tw @sa (tw @y1 (tw @y2 (tw @y3 (tw @e3 @z1))))))))))))))))))))))))))) ?_;(repeat(refine Pn.mk ?_;intro N hN))))<;>(try refine fb ?_ ?_)<;>(try((repeat(revert hN;revert N;apply Pn.out));refine wk (tw @m0 (tw @m1 (tw @m5 (tw @m6 (tw @mX (tw @mF (tw @hj (tw @iR (tw @aA.eq_1 (tw @mg (tw @jv (tw @gM (tw @fV (tw @jk (tw @x1 (tw @x2 (tw @x3 (tw @wX (tw @wA (tw @wF (tw @bH.eq_1 (tw @hid (tw @sa (tw @y1 (tw @y2 (tw @y3 (tw @e3 @z1))))))))))))))))))))))))))) ?_;(repeat(refine Pn.mk ?_;intro N hN))))<;>(try refine fb ?_ ?_)<;>(try((repeat(revert hN;revert N;apply Pn.out));refine wk (tw @m0 (tw @m1 (tw @m5 (tw @m6 (tw @mX (tw @mF (tw @hj (tw @iR (tw @aA.eq_1 (tw @mg (tw @jv (tw @gM (tw @fV (tw @jk (tw @x1 (tw @x2 (tw @x3 (tw @wX (tw @wA (tw @wF (tw @bH.eq_1 (tw @hid (tw @sa (tw @y1 (tw @y2 (tw @y3 (tw @e3 @z1))))))))))))))))))))))))))) ?_;(repeat(refine Pn.mk ?_;intro N hN))))<;>(try refine fb ?_ ?_)<;>(try((repeat(revert hN;revert N;apply Pn.out));refine wk (tw @m0 (tw @m1 (tw @m5 (tw @m6 (tw @mX (tw @mF (tw @hj (tw @iR (tw @aA.eq_1 (tw @mg (tw @jv (tw @gM (tw @fV (tw @jk (tw @x1 (tw @x2 (tw @x3 (tw @wX (tw @wA (tw @wF (tw @bH.eq_1 (tw @hid (tw @sa (tw @y1 (tw @y2 (tw @y3 (tw @e3 @z1))))))))))))))))))))))))))) ?_;(repeat(refine Pn.mk ?_;intro N hN))))
     all_goals
      refine⟨by simp only[go_sem, ↓reduceIte,Nat.reduceEqDiff,Nat.reduceAdd,Nat.reduceSub,Nat.reduceLeDiff,reduceCtorEq,m0,m1,m5,m6,mX,mF,hj,iR,aA,mg,jv,gM,fV,jk,x1,x2,x3,wX,wA,wF,bH,hid,sa,y1,y2,y3,e3,z1],by simp only[go_sem, ↓reduceIte,Nat.reduceEqDiff,Nat.reduceAdd,Nat.reduceSub,Nat.reduceLeDiff,reduceCtorEq,m0,m1,m5,m6,mX,mF,hj,iR,aA,mg,jv,gM,fV,jk,x1,x2,x3,wX,wA,wF,bH,hid,sa,y1,y2,y3,e3,z1],by simp only[go_sem, ↓reduceIte,Nat.reduceEqDiff,Nat.reduceAdd,Nat.reduceSub,Nat.reduceLeDiff,reduceCtorEq,m0,m1,m5,m6,mX,mF,hj,iR,aA,mg,jv,gM,fV,jk,x1,x2,x3,wX,wA,wF,bH,hid,sa,y1,y2,y3,e3,z1],by simp only[go_sem, ↓reduceIte,Nat.reduceEqDiff,Nat.reduceAdd,Nat.reduceSub,Nat.reduceLeDiff,reduceCtorEq,m0,m1,m5,m6,mX,mF,hj,iR,aA,mg,jv,gM,fV,jk,x1,x2,x3,wX,wA,wF,bH,hid,sa,y1,y2,y3,e3,z1],by simp only[go_sem, ↓reduceIte,Nat.reduceEqDiff,Nat.reduceAdd,Nat.reduceSub,Nat.reduceLeDiff,reduceCtorEq,m0,m1,m5,m6,mX,mF,hj,iR,aA,mg,jv,gM,fV,jk,x1,x2,x3,wX,wA,wF,bH,hid,sa,y1,y2,y3,e3,z1],by simp only[go_sem, ↓reduceIte,Nat.reduceEqDiff,Nat.reduceAdd,Nat.reduceSub,Nat.reduceLeDiff,reduceCtorEq,m0,m1,m5,m6,mX,mF,hj,iR,aA,mg,jv,gM,fV,jk,x1,x2,x3,wX,wA,wF,bH,hid,sa,y1,y2,y3,e3,z1],IV _ (by simp only[go_sem, ↓reduceIte,Nat.reduceEqDiff,Nat.reduceAdd,Nat.reduceSub,Nat.reduceLeDiff,reduceCtorEq,m0,m1,m5,m6,mX,mF,hj,iR,aA,mg,jv,gM,fV,jk,x1,x2,x3,wX,wA,wF,bH,hid,sa,y1,y2,y3,e3,z1,List.length_nil]) (by simp only[go_sem, ↓reduceIte,Nat.reduceEqDiff,Nat.reduceAdd,Nat.reduceSub,Nat.reduceLeDiff,reduceCtorEq,m0,m1,m5,m6,mX,mF,hj,iR,aA,mg,jv,gM,fV,jk,x1,x2,x3,wX,wA,wF,bH,hid,sa,y1,y2,y3,e3,z1,List.map_nil,List.nil_append]) (fun i hi Ou fc=>?_),by(try dsimp only);omega⟩
      have ik:=fc id rfl
      simp only[go_sem, ↓reduceIte,Nat.reduceEqDiff,Nat.reduceAdd,Nat.reduceSub,Nat.reduceLeDiff,reduceCtorEq,wX,wA,wF,dP hi,Ou,ik]
  ·intro N hN
   rcases IE with⟨QK,Bv⟩|⟨id,Bv,hLp,hid,Lr,yg⟩
   ·simp only[List.cons.injEq,and_true]at Bv
    subst Bv
    subst QK
    refine fb ?_ ?_<;>(try((repeat(revert hN;revert N;apply Pn.out));refine wk (tw @a6 (tw @a5 (tw @ag0 (tw @ag1 (tw @a0 (tw @a1 (tw @hj (tw @iR (tw @aA.eq_1 (tw @ag (tw @ju (tw @gM (tw @fV (tw @jj (tw @x1 (tw @x2 (tw @x3 (tw @vX (tw @vA (tw @vF @bH.eq_1)))))))))))))))))))) ?_;(repeat(refine Pn.mk ?_;intro N hN))))<;>(try refine fb ?_ ?_)<;>(try((repeat(revert hN;revert N;apply Pn.out));refine wk (tw @a6 (tw @a5 (tw @ag0 (tw @ag1 (tw @a0 (tw @a1 (tw @hj (tw @iR (tw @aA.eq_1 (tw @ag (tw @ju (tw @gM (tw @fV (tw @jj (tw @x1 (tw @x2 (tw @x3 (tw @vX (tw @vA (tw @vF @bH.eq_1)))))))))))))))))))) ?_;(repeat(refine Pn.mk ?_;intro N hN))))<;>(try refine fb ?_ ?_)<;>(try((repeat(revert hN;revert N;apply Pn.out));refine wk (tw @a6 (tw @a5 (tw @ag0 (tw @ag1 (tw @a0 (tw @a1 (tw @hj (tw @iR (tw @aA.eq_1 (tw @ag (tw @ju (tw @gM (tw @fV (tw @jj (tw @x1 (tw @x2 (tw @x3 (tw @vX (tw @vA (tw @vF @bH.eq_1)))))))))))))))))))) ?_;(repeat(refine Pn.mk ?_;intro N hN))))<;>(try refine fb ?_ ?_)<;>(try((repeat(revert hN;revert N;apply Pn.out));refine wk (tw @a6 (tw @a5 (tw @ag0 (tw @ag1 (tw @a0 (tw @a1 (tw @hj (tw @iR (tw @aA.eq_1 (tw @ag (tw @ju (tw @gM (tw @fV (tw @jj (tw @x1 (tw @x2 (tw @x3 (tw @vX (tw @vA (tw @vF @bH.eq_1)))))))))))))))))))) ?_;(repeat(refine Pn.mk ?_;intro N hN))))<;>(try refine fb ?_ ?_)<;>(try((repeat(revert hN;revert N;apply Pn.out));refine wk (tw @a6 (tw @a5 (tw @ag0 (tw @ag1 (tw @a0 (tw @a1 (tw @hj (tw @iR (tw @aA.eq_1 (tw @ag (tw @ju (tw @gM (tw @fV (tw @jj (tw @x1 (tw @x2 (tw @x3 (tw @vX (tw @vA (tw @vF @bH.eq_1)))))))))))))))))))) ?_;(repeat(refine Pn.mk ?_;intro N hN))))<;>(try refine fb ?_ ?_)<;>(try((repeat(revert hN;revert N;apply Pn.out));refine wk (tw @a6 (tw @a5 (tw @ag0 (tw @ag1 (tw @a0 (tw @a1 (tw @hj (tw @iR (tw @aA.eq_1 (tw @ag (tw @ju (tw @gM (tw @fV (tw @jj (tw @x1 (tw @x2 (tw @x3 (tw @vX (tw @vA (tw @vF @bH.eq_1)))))))))))))))))))) ?_;(repeat(refine Pn.mk ?_;intro N hN))))
    all_goals
     refine⟨by simp only[go_sem, ↓reduceIte,Nat.reduceEqDiff,Nat.reduceAdd,Nat.reduceSub,Nat.reduceLeDiff,reduceCtorEq,a6,a5,ag0,ag1,a0,a1,hj,iR,aA,ag,ju,gM,fV,jj,x1,x2,x3,vX,vA,vF,bH],by simp only[go_sem, ↓reduceIte,Nat.reduceEqDiff,Nat.reduceAdd,Nat.reduceSub,Nat.reduceLeDiff,reduceCtorEq,a6,a5,ag0,ag1,a0,a1,hj,iR,aA,ag,ju,gM,fV,jj,x1,x2,x3,vX,vA,vF,bH],by simp only[go_sem, ↓reduceIte,Nat.reduceEqDiff,Nat.reduceAdd,Nat.reduceSub,Nat.reduceLeDiff,reduceCtorEq,a6,a5,ag0,ag1,a0,a1,hj,iR,aA,ag,ju,gM,fV,jj,x1,x2,x3,vX,vA,vF,bH],by simp only[go_sem, ↓reduceIte,Nat.reduceEqDiff,Nat.reduceAdd,Nat.reduceSub,Nat.reduceLeDiff,reduceCtorEq,a6,a5,ag0,ag1,a0,a1,hj,iR,aA,ag,ju,gM,fV,jj,x1,x2,x3,vX,vA,vF,bH],by simp only[go_sem, ↓reduceIte,Nat.reduceEqDiff,Nat.reduceAdd,Nat.reduceSub,Nat.reduceLeDiff,reduceCtorEq,a6,a5,ag0,ag1,a0,a1,hj,iR,aA,ag,ju,gM,fV,jj,x1,x2,x3,vX,vA,vF,bH],by simp only[go_sem, ↓reduceIte,Nat.reduceEqDiff,Nat.reduceAdd,Nat.reduceSub,Nat.reduceLeDiff,reduceCtorEq,a6,a5,ag0,ag1,a0,a1,hj,iR,aA,ag,ju,gM,fV,jj,x1,x2,x3,vX,vA,vF,bH],IU _ (by simp only[go_sem, ↓reduceIte,Nat.reduceEqDiff,Nat.reduceAdd,Nat.reduceSub,Nat.reduceLeDiff,reduceCtorEq,a6,a5,ag0,ag1,a0,a1,hj,iR,aA,ag,ju,gM,fV,jj,x1,x2,x3,vX,vA,vF,bH,List.length_nil]) (by simp only[go_sem, ↓reduceIte,Nat.reduceEqDiff,Nat.reduceAdd,Nat.reduceSub,Nat.reduceLeDiff,reduceCtorEq,a6,a5,ag0,ag1,a0,a1,hj,iR,aA,ag,ju,gM,fV,jj,x1,x2,x3,vX,vA,vF,bH,List.map_nil,List.nil_append]) (fun i hi Ou fc=>?_),by(try dsimp only);omega⟩
     clear fc
     simp only[go_sem, ↓reduceIte,Nat.reduceEqDiff,Nat.reduceAdd,Nat.reduceSub,Nat.reduceLeDiff,reduceCtorEq,vX,vA,vF,dP hi,Ou]
   ·simp only[List.cons.injEq,and_true]at Bv
    subst Bv
    have sa:=dP Lr
    have y1:=cZ (a:=A) (b:=id) (by omega)
    have y2:=cZ (a:=F) (b:=id) yg
    have y3:=cZ (a:=X) (b:=id) (by omega)
    have e3:La.length+1<=16777216:=by omega
    have z1:(La.map eN).length=La.length:=by simp
    refine fb ?_ ?_<;>(try((repeat(revert hN;revert N;apply Pn.out));refine wk (tw @a6 (tw @a5 (tw @ag0 (tw @ag1 (tw @a0 (tw @a1 (tw @hj (tw @iR (tw @aA.eq_1 (tw @ag (tw @ju (tw @gM (tw @fV (tw @jj (tw @x1 (tw @x2 (tw @x3 (tw @vX (tw @vA (tw @vF (tw @bH.eq_1 (tw @hid (tw @sa (tw @y1 (tw @y2 (tw @y3 (tw @e3 @z1))))))))))))))))))))))))))) ?_;(repeat(refine Pn.mk ?_;intro N hN))))<;>(try refine fb ?_ ?_)<;>(try((repeat(revert hN;revert N;apply Pn.out));refine wk (tw @a6 (tw @a5 (tw @ag0 (tw @ag1 (tw @a0 (tw @a1 (tw @hj (tw @iR (tw @aA.eq_1 (tw @ag (tw @ju (tw @gM (tw @fV (tw @jj (tw @x1 (tw @x2 (tw @x3 (tw @vX (tw @vA (tw @vF (tw @bH.eq_1 (tw @hid (tw @sa (tw @y1 (tw @y2 (tw @y3 (tw @e3 @z1))))))))))))))))))))))))))) ?_;(repeat(refine Pn.mk ?_;intro N hN))))<;>(try refine fb ?_ ?_)<;>(try((repeat(revert hN;revert N;apply Pn.out));refine wk (tw @a6 (tw @a5 (tw @ag0 (tw @ag1 (tw @a0 (tw @a1 (tw @hj (tw @iR (tw @aA.eq_1 (tw @ag (tw @ju (tw @gM (tw @fV (tw @jj (tw @x1 (tw @x2 (tw @x3 (tw @vX (tw @vA (tw @vF (tw @bH.eq_1 (tw @hid (tw @sa (tw @y1 (tw @y2 (tw @y3 (tw @e3 @z1))))))))))))))))))))))))))) ?_;(repeat(refine Pn.mk ?_;intro N hN))))<;>(try refine fb ?_ ?_)<;>(try((repeat(revert hN;revert N;apply Pn.out));refine wk (tw @a6 (tw @a5 (tw @ag0 (tw @ag1 (tw @a0 (tw @a1 (tw @hj (tw @iR (tw @aA.eq_1 (tw @ag (tw @ju (tw @gM (tw @fV (tw @jj (tw @x1 (tw @x2 (tw @x3 (tw @vX (tw @vA (tw @vF (tw @bH.eq_1 (tw @hid (tw @sa (tw @y1 (tw @y2 (tw @y3 (tw @e3 @z1))))))))))))))))))))))))))) ?_;(repeat(refine Pn.mk ?_;intro N hN))))<;>(try refine fb ?_ ?_)<;>(try((repeat(revert hN;revert N;apply Pn.out));refine wk (tw @a6 (tw @a5 (tw @ag0 (tw @ag1 (tw @a0 (tw @a1 (tw @hj (tw @iR (tw @aA.eq_1 (tw @ag (tw @ju (tw @gM (tw @fV (tw @jj (tw @x1 (tw @x2 (tw @x3 (tw @vX (tw @vA (tw @vF (tw @bH.eq_1 (tw @hid (tw @sa (tw @y1 (tw @y2 (tw @y3 (tw @e3 @z1))))))))))))))))))))))))))) ?_;(repeat(refine Pn.mk ?_;intro N hN))))<;>(try refine fb ?_ ?_)<;>(try((repeat(revert hN;revert N;apply Pn.out));refine wk (tw @a6 (tw @a5 (tw @ag0 (tw @ag1 (tw @a0 (tw @a1 (tw @hj (tw @iR (tw @aA.eq_1 (tw @ag (tw @ju (tw @gM (tw @fV (tw @jj (tw @x1 (tw @x2 (tw @x3 (tw @vX (tw @vA (tw @vF (tw @bH.eq_1 (tw @hid (tw @sa (tw @y1 (tw @y2 (tw @y3 (tw @e3 @z1))))))))))))))))))))))))))) ?_;(repeat(refine Pn.mk ?_;intro N hN))))
    all_goals
     refine⟨by simp only[go_sem, ↓reduceIte,Nat.reduceEqDiff,Nat.reduceAdd,Nat.reduceSub,Nat.reduceLeDiff,reduceCtorEq,a6,a5,ag0,ag1,a0,a1,hj,iR,aA,ag,ju,gM,fV,jj,x1,x2,x3,vX,vA,vF,bH,hid,sa,y1,y2,y3,e3,z1],by simp only[go_sem, ↓reduceIte,Nat.reduceEqDiff,Nat.reduceAdd,Nat.reduceSub,Nat.reduceLeDiff,reduceCtorEq,a6,a5,ag0,ag1,a0,a1,hj,iR,aA,ag,ju,gM,fV,jj,x1,x2,x3,vX,vA,vF,bH,hid,sa,y1,y2,y3,e3,z1],by simp only[go_sem, ↓reduceIte,Nat.reduceEqDiff,Nat.reduceAdd,Nat.reduceSub,Nat.reduceLeDiff,reduceCtorEq,a6,a5,ag0,ag1,a0,a1,hj,iR,aA,ag,ju,gM,fV,jj,x1,x2,x3,vX,vA,vF,bH,hid,sa,y1,y2,y3,e3,z1],by simp only[go_sem, ↓reduceIte,Nat.reduceEqDiff,Nat.reduceAdd,Nat.reduceSub,Nat.reduceLeDiff,reduceCtorEq,a6,a5,ag0,ag1,a0,a1,hj,iR,aA,ag,ju,gM,fV,jj,x1,x2,x3,vX,vA,vF,bH,hid,sa,y1,y2,y3,e3,z1],by simp only[go_sem, ↓reduceIte,Nat.reduceEqDiff,Nat.reduceAdd,Nat.reduceSub,Nat.reduceLeDiff,reduceCtorEq,a6,a5,ag0,ag1,a0,a1,hj,iR,aA,ag,ju,gM,fV,jj,x1,x2,x3,vX,vA,vF,bH,hid,sa,y1,y2,y3,e3,z1],by simp only[go_sem, ↓reduceIte,Nat.reduceEqDiff,Nat.reduceAdd,Nat.reduceSub,Nat.reduceLeDiff,reduceCtorEq,a6,a5,ag0,ag1,a0,a1,hj,iR,aA,ag,ju,gM,fV,jj,x1,x2,x3,vX,vA,vF,bH,hid,sa,y1,y2,y3,e3,z1],IU _ (by simp only[go_sem, ↓reduceIte,Nat.reduceEqDiff,Nat.reduceAdd,Nat.reduceSub,Nat.reduceLeDiff,reduceCtorEq,a6,a5,ag0,ag1,a0,a1,hj,iR,aA,ag,ju,gM,fV,jj,x1,x2,x3,vX,vA,vF,bH,hid,sa,y1,y2,y3,e3,z1,List.length_nil]) (by simp only[go_sem, ↓reduceIte,Nat.reduceEqDiff,Nat.reduceAdd,Nat.reduceSub,Nat.reduceLeDiff,reduceCtorEq,a6,a5,ag0,ag1,a0,a1,hj,iR,aA,ag,ju,gM,fV,jj,x1,x2,x3,vX,vA,vF,bH,hid,sa,y1,y2,y3,e3,z1,List.map_nil,List.nil_append]) (fun i hi Ou fc=>?_),by(try dsimp only);omega⟩
     have ik:=fc id rfl
     simp only[go_sem, ↓reduceIte,Nat.reduceEqDiff,Nat.reduceAdd,Nat.reduceSub,Nat.reduceLeDiff,reduceCtorEq,vX,vA,vF,dP hi,Ou,ik]
 ·have gP:j=bs.length:=by omega
  subst gP
  (try((repeat(revert hN;revert N;apply Pn.out));refine wk (tw @a6 (tw @a5 (tw @ag0 (tw @ag1 (tw @a0 (tw @a1 @hj)))))) ?_;(repeat(refine Pn.mk ?_;intro N hN))))
  exact gV (.inl rfl) (by simp only[fe,ig,go_sem, ↓reduceIte,Nat.reduceEqDiff,Nat.reduceAdd,Nat.reduceSub,Nat.reduceLeDiff,reduceCtorEq];rfl) ⟨X,A,F,rfl,hXs,⟨ag0,⟨rows,ids,ag,hR,pr,fun x hx=>by have:=nV x hx;(try dsimp only);omega⟩,ag1,hXA,hAF,by(try dsimp only);omega⟩⟩
theorem qU.frame {A:Id} {lo nx uH:Nat} {L:List (List Nat)} {g g':Rows} (h:qU A lo L g nx) (hA:A.bY<nx) (hf:∀i:Id,i.bY<nx->lo<i.bY∨i=A->g' i=g i) (hn:nx<=uH):qU A lo L g' uH:=by
 obtain⟨rows,ids,h1,h2,h3,h4⟩:=h
 refine⟨rows,ids,(hf A hA (.inr rfl)).trans h1,h2.frame Ng fun i hi=>hf i (h4 i hi).2 (.inl (h4 i hi).1),h3,fun i hi=>?_⟩
 have:=h4 i hi;omega
theorem oe.frame {cnt:Nat} {bs:List PB} {f:Nat->Int} {X A F:Id} {g g':Rows} {nx uH:Nat} (h:oe cnt bs f X A F g nx) (hf:∀i:Id,i.bY<nx->g' i=g i) (hn:nx<=uH):oe cnt bs f X A F g' uH:=by
 have h1:=h.xa;have h2:=h.af;have h3:=h.fn
 exact⟨(hf X (by omega)).trans h.x,h.a.frame (by omega) (fun i hi _=>hf i hi) hn,(hf F h3).trans h.f,h1,h2,by omega⟩
theorem oe.QF {cnt:Nat} {bs:List PB} {f f':Nat->Int} {X A F:Id} {g g':Rows} {nx uH:Nat} (h:oe cnt bs f X A F g nx) (hF:g' F=some ⟨true,1,eo f' bs.length⟩) (hf:∀i:Id,i.bY<nx->(i=F)=False->g' i=g i) (hn:nx<=uH):oe cnt bs f' X A F g' uH:=by
 have h1:=h.xa;have h2:=h.af;have h3:=h.fn
 refine⟨(hf X (by omega) (cZ (by omega)).1).trans h.x,h.a.frame (by omega) (fun i hi jZ=>hf i hi ?_) hn,hF,h1,h2,by omega⟩
 rcases jZ with jZ|rfl
 ·exact(cZ jZ).2
 ·exact(cZ h2).1
theorem O3 (cnt:Nat) (bs:List PB) (f:Nat->Int) (hs:Small bs f) (e v:Nat) (he:e<bs.length) (X A F:Id) (σ:aw) (nx:Nat) (hS:oe cnt bs f X A F σ.get nx) (hn:nx<=σ.next):
  Call Tryz.prog 298 [.ptr X 0 0,.int .i64 v,.int .i64 e] σ fun r σ'=>oe cnt bs (tQ bs f e v) X A F σ'.get nx/\σ.next<=σ'.next/\∀i:Id,(i=F)=False->σ'.get i=σ.get i:=by
 refine gY eH rfl fun hl=>?_
 clear hl
 have hX:=hS.x
 have hF:=hS.f
 have hb:=uk he
 have Q3:=ef (f:=f) he
 have tl:=dM f bs.length
 obtain⟨⟨s0,s1⟩,s2,s3⟩:=hs e he
 have hei:(e:Int)<(bs.length:Int):=by omega
 have w1:IntKind.i64.wrap (f e+1)=f e+1:=bU (by omega)
 have w2:IntKind.i64.wrap (f e-1)=f e+-1:=by rw[bU (by omega)];omega
 rw[bJ]at Q3
 unfold tQ
 by_cases h:(cr bs e).a=v
 ·have fh:(eo f bs.length).set e (bJ (f e+1))=eo (fun j=>f j+if j=e then(if (cr bs e).a=v then 1 else -1)else 0) bs.length:=ll he (by rw[if_pos rfl,if_pos h]) fun i _ hi=>by rw[if_neg hi,Int.add_zero]
  rw[bJ]at fh
  generalize SC:cr bs e=b at *
  have hd:decide ((b.a:Int)=(v:Int))=true:=decide_eq_true (by rw[h])
  (try((repeat(revert hN;revert N;apply Pn.out));refine wk (tw @hX (tw @hF (tw @hb (tw @Q3 (tw @tl (tw @hei (tw @w1 (tw @fh (tw @hd (tw @aA.eq_1 @bH.eq_1)))))))))) ?_;(repeat(refine Pn.mk ?_;intro N hN))))
  exact gV (.inr rfl) (vs:=[]) rfl ⟨hS.QF (sd @Nat.zero_add) (fun i hi ik=>sd @ik) (Nat.le_refl _),by(try dsimp only);omega,fun i ik=>sd @ik⟩
 ·have fh:(eo f bs.length).set e (bJ (f e+-1))=eo (fun j=>f j+if j=e then(if (cr bs e).a=v then 1 else -1)else 0) bs.length:=ll he (by rw[if_pos rfl,if_neg h]) fun i _ hi=>by rw[if_neg hi,Int.add_zero]
  rw[bJ]at fh
  generalize SC:cr bs e=b at *
  have hd:decide ((b.a:Int)=(v:Int))=false:=decide_eq_false fun hc=>h (by omega)
  (try((repeat(revert hN;revert N;apply Pn.out));refine wk (tw @hX (tw @hF (tw @hb (tw @Q3 (tw @tl (tw @hei (tw @w2 (tw @fh (tw @hd (tw @aA.eq_1 @bH.eq_1)))))))))) ?_;(repeat(refine Pn.mk ?_;intro N hN))))
  exact gV (.inr rfl) (vs:=[]) rfl ⟨hS.QF (sd @Nat.zero_add) (fun i hi ik=>sd @ik) (Nat.le_refl _),by(try dsimp only);omega,fun i ik=>sd @ik⟩
structure oh (bs:List PB) (out:Nat->Int) (f f':Nat->Int) (x v:Nat):Prop where
 le:∀i,i<bs.length->f' i<=(cr bs i).s/\-(cr bs i).s<=f' i
 cut:∀S:Nat->Bool,FZ S bs f'=FZ S bs f+bi (S x)-bi (S v)
 yL:∀e,e<bs.length->out (cr bs e).a<=out v->out (cr bs e).b<=out v->f' e=f e
section
variable {cnt:Nat} {bs:List PB} {out:Nat->Int} {f f':Nat->Int} {x v y:Nat}
theorem oh.start (h:∀i,i<bs.length->f i<=(cr bs i).s/\-(cr bs i).s<=f i):oh bs out f f x x:=⟨h,fun S=>by omega,fun _ _ _ _=>rfl⟩
theorem oh.step (h:oh bs out f f' x v) {e:Nat} (he:e<bs.length) (hi:EJ bs e v) (hr:0<fJ bs f' e v) (hd:out (bW bs e v)=out v-1):oh bs out f (tQ bs f' e v) x (bW bs e v):=by
 refine⟨fun i lO=>?_,fun S=>?_,fun i lO ha hb=>?_⟩
 ·have h1:=h.le i lO
  unfold tQ
  by_cases CG:i=e
  ·subst CG
   rw[if_pos rfl]
   unfold fJ at hr
   split at hr<;>rename_i hc
   ·rw[if_pos hc];omega
   ·rw[if_neg hc];omega
  ·rw[if_neg CG];omega
 ·rw[F0 he hi,h.cut S];omega
 ·have CG:i≠e:=by
   rintro rfl
   rcases hi with hi|hi
   ·rw[hi]at ha;omega
   ·rw[hi]at hb;omega
  unfold tQ
  rw[if_neg CG,Int.add_zero]
  exact h.yL i lO (by omega) (by omega)
theorem oh.goes (h:oh bs out f f' x v) (hs:za cnt bs f y out) (hv:v<cnt) (h0:0<out v):∃e∈jc bs bs.length v,0<fJ bs f' e v/\out (bW bs e v)=out v-1:=by
 obtain⟨e,h1,h2,h3,h4⟩:=hs.down v hv h0
 refine⟨e,rN.2 ⟨h1,h2⟩,?_,h4⟩
 have hf:f' e=f e:=by
  refine h.yL e h1 ?_ ?_
  ·unfold bW at h4
   split at h4
   ·rename_i ha;rw[ha];exact Int.le_refl _
   ·omega
  ·unfold bW at h4
   rcases h2 with h2|h2
   ·rw[if_pos h2]at h4;omega
   ·rw[h2];exact Int.le_refl _
 unfold fJ at h3 ⊢
 rw[hf];exact h3
theorem oh.done {val:Int} (h:oh bs out f f' x y) (hf:j5 bs f x y val):j5 bs f' x y (val+1):=
 ⟨h.le,fun S hx hy=>by rw[h.cut S,hf.cut S hx hy,hx,hy];simp[bi]⟩
theorem Es {val:Int} (hs:za cnt bs f y out) (ok:nB cnt bs) (hf:j5 bs f x y val) (hx:out x<0):∃S:Nat->Bool,S x=true/\S y=false/\val=jh S bs:=by
 refine⟨fun v=>decide (out v<0),decide_eq_true hx,decide_eq_false (by rw[hs.first];omega),hf.full (decide_eq_true hx) (decide_eq_false (by rw[hs.first];omega)) fun i hi po=>⟨fun h1 h2 hr=>?_,fun h1 h2 hr=>?_⟩⟩
 ·have N0:=of_decide_eq_true h1
  have Cz:=of_decide_eq_false h2
  have:=hs.shut i (cr bs i).a hi (.inl rfl) (by unfold bW;rw[if_pos rfl];omega) hr
  omega
 ·have N0:=of_decide_eq_true h1
  have Cz:=of_decide_eq_false h2
  have:=hs.shut i (cr bs i).b hi (.inr rfl) (by unfold bW;rw[if_neg po];omega) hr
  omega
end
theorem wS {bs:List PB} {f:Nat->Int} (dK:∀e,e<bs.length->0<=(cr bs e).s/\(cr bs e).s<=4) (h:∀i,i<bs.length->f i<=(cr bs i).s/\-(cr bs i).s<=f i):Small bs f:=fun e he=>by
 have:=dK e he;have:=h e he;omega
theorem qU.at_ {A:Id} {lo nx v:Nat} {L:List (List Nat)} {l:List Nat} {g:Rows} (h:qU A lo L g nx) (hv:L[v]? =some l) (hl:0<l.length):∃(rows:List (List AV)) (id:Id),g A=some ⟨true,1,rows⟩/\rows.length=L.length/\rows[v]? =some [.own id 0 l.length]/\g id=some ⟨true,1,l.map eN⟩/\lo<id.bY/\id.bY<nx:=by
 obtain⟨rows,ids,h1,h2,h3,h4⟩:=h
 have hk:v<L.length:=(List.getElem?_eq_some_iff.1 hv).1
 obtain⟨cs,ic,dq,hR,Q8⟩:=h2.at_ v hk
 rw[kR hv hk]at hR
 rcases hR with⟨h5,_⟩|⟨id,rfl,_,h6,rfl⟩
 ·subst h5;simp at hl
 ·have:=h4 id (Q8 id (by simp))
  exact⟨rows,id,h1,h2.len,dq,h6,this.1,this.2⟩
theorem NZ (cnt:Nat) (hn:cnt<=1048576) (bs:List PB) (ok:nB cnt bs) (nX:bs.length<=1048576) (dK:∀e,e<bs.length->0<=(cr bs e).s/\(cr bs e).s<=4) (f:Nat->Int) (x y:Nat) (hx:x<cnt) (hy:y<cnt) (Rx:x≠y) (val:Int) (hf:j5 bs f x y val)
  (X A F:Id) (σ:aw) (nb:Nat) (hS:oe cnt bs f X A F σ.get nb) (qz:nb<=σ.next):
  Call Tryz.prog 252 [.ptr X 0 0,.int .i64 x,.int .i64 y] σ fun r σ'=>∃b f',r=.bool b/\oe cnt bs f' X A F σ'.get nb/\σ.next<=σ'.next/\(∀i:Id,i.bY<nb->(i=F)=False->σ'.get i=σ.get i)/\
   (b=false->f'=f/\∃S:Nat->Bool,S x=true/\S y=false/\val=jh S bs)/\(b=true->j5 bs f' x y (val+1)):=by
 refine gY eH rfl fun hl=>?_
 clear hl
 have CK:(x:Int)<(cnt:Int):=by omega
 have hz:∀(g:Rows),(∀i:Id,i.bY<nb->g i=σ.get i)->dc (dD g) 6 [.ptr X 0 0,.int .i64 (y:Int)]=some [.cR (fU cnt bs f),.int .i64 y]:=fun g hg=>by
  have:=(hS.frame hg (Nat.le_refl _)).fz
  simp only[ah,aq,this,aF,Option.map_some]
 (try((repeat(revert hN;revert N;apply Pn.out));refine wk @Nat.zero_add ?_;(repeat(refine Pn.mk ?_;intro N hN))))
 refine .inr (bf _ _ _ _ _ (fun r σ1 hq=>?_) ((FA cnt hn bs ok nX f (wS dK hf.le) y hy).x mixed (hz _ (fun i hi=>rfl))))
 obtain⟨⟨out,rfl,OH⟩,rfl⟩:=hq
 refine hN _ _ ?_
 clear hN N
 have hox:=ef (f:=out) hx
 have tl:=dM out cnt
 by_cases j9:out x<0
 ·(try((repeat(revert hN;revert N;apply Pn.out));refine wk (tw @hox (tw @j9 (tw @CK (tw @tl @bJ.eq_1)))) ?_;(repeat(refine Pn.mk ?_;intro N hN))))
  exact gV (.inl rfl) (vs:=[.bool false]) (sd @Nat.zero_add) ⟨false,f,rfl,hS.frame (fun i hi=>rfl) (Nat.le_refl _),by(try dsimp only);omega,fun i _ _=>rfl,fun _=>⟨rfl,Es OH ok hf j9⟩,fun h=>by cases h⟩
 (try((repeat(revert hN;revert N;apply Pn.out));refine wk (tw @hox (tw @j9 (tw @CK (tw @tl @bJ.eq_1)))) ?_;(repeat(refine Pn.mk ?_;intro N hN))))
 refine aZ (fun m env st=>∃(v:Nat) (f':Nat->Int),m=(out v).toNat/\v<cnt/\0<=out v/\env 8=.int .i64 (v:Int)/\oh bs out f f' x v/\oe cnt bs f' X A F st.get nb/\(∀i:Id,i.bY<nb->(i=F)=False->st.get i=σ.get i)/\σ.next<=st.next) (out x).toNat ⟨x,f,rfl,hx,by omega,by(simp only[go_sem, ↓reduceIte,Nat.reduceEqDiff,Nat.reduceAdd,Nat.reduceSub,Nat.reduceLeDiff,reduceCtorEq]),oh.start hf.le,hS.frame (fun i hi=>rfl) (Nat.le_refl _),fun i _ _=>rfl,by(try dsimp only);omega⟩ ?_
 rintro m env_b st_b ⟨v,f',rfl,hv,so,b8,hW,hN1,jm,hle⟩ fM
 have b0:=fM 0 (by kernel_rfl)
 have b2:=fM 2 (by kernel_rfl)
 have b7:=fM 7 (by kernel_rfl)
 simp only[go_sem, ↓reduceIte,Nat.reduceEqDiff,Nat.reduceAdd,Nat.reduceSub,Nat.reduceLeDiff,reduceCtorEq]at b0 b2 b7
 clear fM
 by_cases S6:v=y
 ·have hd:decide ((v:Int)=(y:Int))=true:=decide_eq_true (by rw[S6])
  subst S6
  (try((repeat(revert hN;revert N;apply Pn.out));refine wk (tw @b0 (tw @b2 (tw @b7 (tw @b8 @hd)))) ?_;(repeat(refine Pn.mk ?_;intro N hN))))
  exact gV (.inl rfl) (vs:=[.bool true]) (sd @Nat.zero_add) ⟨true,f',rfl,hN1,by(try dsimp only);omega,jm,fun h=>(by cases h),fun _=>hW.done hf⟩
 have hd:decide ((v:Int)=(y:Int))=false:=decide_eq_false fun h=>S6 (by omega)
 have AK:0<out v:=by
  have:=OH.zero v hv
  rcases Int.lt_or_eq_of_le so with h|h
  ·exact h
  ·exact absurd (this h.symm) S6
 have MV:=hW.goes OH hv AK
 have hIm:∀ed∈jc bs bs.length v,ed<bs.length/\EJ bs ed v:=fun ed h=>rN.1 h
 have hIL:(lD cnt bs bs.length)[v]? =some (jc bs bs.length v):=by simp[lD,hv]
 have hIl:=rM bs bs.length v
 generalize jc bs bs.length v=I at *
 have hIp:0<I.length:=by
  obtain⟨ed,h,_⟩:=MV
  exact List.length_pos_of_mem h
 obtain⟨rows,id,SH,tH,lP,hid,hid1,hid2⟩:=hN1.a.at_ hIL hIp
 rw[jw]at tH
 have hgX:=hN1.x
 have DF:(v:Int)<(cnt:Int):=by omega
 have yl:=ef (f:=out) hv
 have mW:IntKind.i64.wrap (out v-1)=out v-1:=bU (by have:=OH.lo v hv;omega)
 have qw:(I.map eN).length=I.length:=by simp
 have HC:=wS dK hW.le
 have lR:∀(g:Rows),(∀i:Id,i.bY<nb->g i=st_b.get i)->∀ed:Nat,dc (dD g) 6 [.ptr X 0 0,.int .i64 (v:Int),.int .i64 (ed:Int)]=some [.cR (fU cnt bs f'),.int .i64 v,.int .i64 ed]:=fun g hg ed=>by
  have:=(hN1.frame hg (Nat.le_refl _)).fz
  simp only[ah,aq,this,aF,Option.map_some]
 rw[bJ]at yl
 (try((repeat(revert hN;revert N;apply Pn.out));refine wk (tw @b0 (tw @b2 (tw @b7 (tw @b8 @hd)))) ?_;(repeat(refine Pn.mk ?_;intro N hN))))
 refine aZ (fun n env st=>∃k:Nat,n=(I.length)-k/\k<=(I.length)/\env 11=.int .i64 (k:Int)/\(∃(tP EP:Int),env 9=.int .i64 tP/\env 10=.int .i64 EP/\((tP<0/\∀z,z<k->¬(0<fJ bs f' (I.getD z 0) v/\out (bW bs (I.getD z 0) v)=out v-1))∨∃ed:Nat,ed∈I/\EP=(ed:Int)/\tP=(bW bs ed v:Int)/\0<fJ bs f' ed v/\out (bW bs ed v)=out v-1))/\((∀i:Id,st.get i=st_b.get i)/\st_b.next<=st.next)) (I.length) ⟨0,by omega,by omega,sl (tw @b0 (tw @b2 (tw @b7 @b8))),⟨-1,0,by(simp only[go_sem, ↓reduceIte,Nat.reduceEqDiff,Nat.reduceAdd,Nat.reduceSub,Nat.reduceLeDiff,reduceCtorEq]),by(simp only[go_sem, ↓reduceIte,Nat.reduceEqDiff,Nat.reduceAdd,Nat.reduceSub,Nat.reduceLeDiff,reduceCtorEq]),.inl ⟨by omega,fun z hz=>by omega⟩⟩,⟨fun i=>rfl,by(try dsimp only);omega⟩⟩ ?_
 rintro n_c env_c st_c ⟨k,rfl,cle,nO,cI0,cI1⟩ cfr
 have c0:=cfr 0 (by kernel_rfl);have c2:=cfr 2 (by kernel_rfl);have c7:=cfr 7 (by kernel_rfl);have c8:=cfr 8 (by kernel_rfl)
 simp only[go_sem, ↓reduceIte,Nat.reduceEqDiff,Nat.reduceAdd,Nat.reduceSub,Nat.reduceLeDiff,reduceCtorEq,b0,b2,b7,b8]at c0 c2 c7 c8
 clear cfr
 obtain⟨tP,EP,c9,jC,ID⟩:=cI0
 obtain⟨mD,PZ⟩:=cI1
 have Dv:=(mD X).trans hgX
 have Du:=(mD A).trans SH
 have zD:=(mD id).trans hid
 by_cases hk:(k:Int)<(I.length:Int)
 ·have iw:∀{e:Env} {gg:Rows} {nx:Nat},(e 11=.int .i64 (IntKind.i64.wrap ((k:Int)+1)))->(∃(tP EP:Int),e 9=.int .i64 tP/\e 10=.int .i64 EP/\((tP<0/\∀z,z<(k+1)->¬(0<fJ bs f' (I.getD z 0) v/\out (bW bs (I.getD z 0) v)=out v-1))∨∃ed:Nat,ed∈I/\EP=(ed:Int)/\tP=(bW bs ed v:Int)/\0<fJ bs f' ed v/\out (bW bs ed v)=out v-1))->((∀i:Id,gg i=st_b.get i)/\st_b.next<=nx)->∃m0,m0<(I.length)-k/\∃k:Nat,m0=(I.length)-k/\k<=(I.length)/\e 11=.int .i64 (k:Int)/\(∃(tP EP:Int),e 9=.int .i64 tP/\e 10=.int .i64 EP/\((tP<0/\∀z,z<k->¬(0<fJ bs f' (I.getD z 0) v/\out (bW bs (I.getD z 0) v)=out v-1))∨∃ed:Nat,ed∈I/\EP=(ed:Int)/\tP=(bW bs ed v:Int)/\0<fJ bs f' ed v/\out (bW bs ed v)=out v-1))/\((∀i:Id,gg i=st_b.get i)/\st_b.next<=nx):=fun x1 x2 x3=>⟨_,by omega,k+1,rfl,by omega,(by rw[x1,az (by omega)]),x2,x3⟩
  have fm:k<I.length:=by omega
  have eh:(I.map eN)[k]? =some (eN (I.getD k 0)):=getD_map eN fm
  have sO:I.getD k 0∈I:=by rw[List.getD_eq_getElem?_getD,List.getElem?_eq_getElem fm];exact List.getElem_mem fm
  obtain⟨he,pV⟩:=hIm _ sO
  have KQ:=JY cnt bs f' HC (I.getD k 0) v he
  have xh:=lR st_c.get (fun i _=>mD i) (I.getD k 0)
  have hq:=oV ok (v:=v) he
  have P6:=ef (f:=out) hq
  obtain⟨ed,hed⟩:∃ed,ed=I.getD k 0:=⟨_,rfl⟩
  rw[<-hed]at eh he pV KQ xh hq P6 sO
  rw[bJ]at P6
  rw[eN]at eh
  (try((repeat(revert hN;revert N;apply Pn.out));refine wk (tw @nO (tw @c0 (tw @c2 (tw @c7 (tw @c8 (tw @c9 (tw @jC (tw @hk (tw @Dv (tw @Du (tw @zD (tw @lP (tw @tH (tw @DF (tw @eh (tw @qw @bH.eq_1)))))))))))))))) ?_;(repeat(refine Pn.mk ?_;intro N hN))))
  refine .inl ⟨_,aj.x KQ xh,?_⟩
  refine hN _ _ ?_
  clear hN N
  have stay:∀k',k'=k+1->(¬(0<fJ bs f' ed v/\out (bW bs ed v)=out v-1))->((tP<0/\∀z,z<k'->¬(0<fJ bs f' (I.getD z 0) v/\out (bW bs (I.getD z 0) v)=out v-1))∨∃ed:Nat,ed∈I/\EP=(ed:Int)/\tP=(bW bs ed v:Int)/\0<fJ bs f' ed v/\out (bW bs ed v)=out v-1):=fun k' CH jH=>by
   rcases ID with⟨h1,h2⟩|h
   ·refine .inl ⟨h1,fun z hz=>?_⟩
    by_cases DH:z=k
    ·subst DH;rw[<-hed];exact jH
    ·exact h2 z (by omega)
   ·exact .inr h
  by_cases hr:0<fJ bs f' ed v
  ·by_cases KH:out (bW bs ed v)=out v-1
   ·have nQ:decide (out (bW bs ed v)=out v-1)=true:=decide_eq_true KH
    have found:∃QA:Nat,QA∈I/\(ed:Int)=(QA:Int)/\(bW bs ed v:Int)=(bW bs QA v:Int)/\0<fJ bs f' QA v/\out (bW bs QA v)=out v-1:=⟨ed,sO,rfl,rfl,hr,KH⟩
    by_cases HB:tP<0
    ·(try((repeat(revert hN;revert N;apply Pn.out));refine wk (tw @nO (tw @c0 (tw @c2 (tw @c7 (tw @c8 (tw @c9 (tw @jC (tw @hk (tw @Dv (tw @Du (tw @zD (tw @lP (tw @tH (tw @DF (tw @eh (tw @qw (tw @hr (tw @P6 (tw @yl (tw @mW (tw @nQ (tw @HB @bH.eq_1)))))))))))))))))))))) ?_;(repeat(refine Pn.mk ?_;intro N hN))))
     exact iw (sd (tw @nO (tw @c0 (tw @c2 (tw @c7 @c8))))) (⟨_,_,sd @Nat.zero_add,sd @Nat.zero_add,.inr found⟩) (⟨mD,by(try dsimp only);omega⟩)
    ·by_cases dJ:(bW bs ed v:Int)<tP
     ·(try((repeat(revert hN;revert N;apply Pn.out));refine wk (tw @nO (tw @c0 (tw @c2 (tw @c7 (tw @c8 (tw @c9 (tw @jC (tw @hk (tw @Dv (tw @Du (tw @zD (tw @lP (tw @tH (tw @DF (tw @eh (tw @qw (tw @hr (tw @P6 (tw @yl (tw @mW (tw @nQ (tw @HB (tw @dJ @bH.eq_1))))))))))))))))))))))) ?_;(repeat(refine Pn.mk ?_;intro N hN))))
      exact iw (sd (tw @nO (tw @c0 (tw @c2 (tw @c7 @c8))))) (⟨_,_,sd @Nat.zero_add,sd @Nat.zero_add,.inr found⟩) (⟨mD,by(try dsimp only);omega⟩)
     ·(try((repeat(revert hN;revert N;apply Pn.out));refine wk (tw @nO (tw @c0 (tw @c2 (tw @c7 (tw @c8 (tw @c9 (tw @jC (tw @hk (tw @Dv (tw @Du (tw @zD (tw @lP (tw @tH (tw @DF (tw @eh (tw @qw (tw @hr (tw @P6 (tw @yl (tw @mW (tw @nQ (tw @HB (tw @dJ @bH.eq_1))))))))))))))))))))))) ?_;(repeat(refine Pn.mk ?_;intro N hN))))
      exact iw (sd (tw @nO (tw @c0 (tw @c2 (tw @c7 @c8))))) (⟨tP,EP,sd @c9,sd @jC,by
       rcases ID with⟨h1,_⟩|h
       ·exact absurd h1 HB
       ·exact .inr h⟩) (⟨mD,by(try dsimp only);omega⟩)
   ·have nQ:decide (out (bW bs ed v)=out v-1)=false:=decide_eq_false KH
    (try((repeat(revert hN;revert N;apply Pn.out));refine wk (tw @nO (tw @c0 (tw @c2 (tw @c7 (tw @c8 (tw @c9 (tw @jC (tw @hk (tw @Dv (tw @Du (tw @zD (tw @lP (tw @tH (tw @DF (tw @eh (tw @qw (tw @hr (tw @P6 (tw @yl (tw @mW (tw @nQ @bH.eq_1))))))))))))))))))))) ?_;(repeat(refine Pn.mk ?_;intro N hN))))
    exact iw (sd (tw @nO (tw @c0 (tw @c2 (tw @c7 @c8))))) (⟨tP,EP,sd @c9,sd @jC,stay _ rfl fun h=>KH h.2⟩) (⟨mD,by(try dsimp only);omega⟩)
  ·(try((repeat(revert hN;revert N;apply Pn.out));refine wk (tw @nO (tw @c0 (tw @c2 (tw @c7 (tw @c8 (tw @c9 (tw @jC (tw @hk (tw @Dv (tw @Du (tw @zD (tw @lP (tw @tH (tw @DF (tw @eh (tw @qw (tw @hr @bH.eq_1))))))))))))))))) ?_;(repeat(refine Pn.mk ?_;intro N hN))))
   exact iw (sd (tw @nO (tw @c0 (tw @c2 (tw @c7 @c8))))) (⟨tP,EP,sd @c9,sd @jC,stay _ rfl fun h=>hr h.1⟩) (⟨mD,by(try dsimp only);omega⟩)
 ·have kq:k=I.length:=by omega
  have Ud:∃ed:Nat,ed∈I/\EP=(ed:Int)/\tP=(bW bs ed v:Int)/\0<fJ bs f' ed v/\out (bW bs ed v)=out v-1:=by
   rcases ID with⟨h1,h2⟩|h
   ·exfalso
    obtain⟨ed,he,hq⟩:=MV
    obtain⟨z,hz,rfl⟩:=List.getElem_of_mem he
    refine h2 z (by omega) ?_
    rw[List.getD_eq_getElem?_getD,List.getElem?_eq_getElem hz];exact hq
   ·exact h
  obtain⟨ed,sO,rfl,rfl,hr,KH⟩:=Ud
  obtain⟨he,pV⟩:=hIm _ sO
  (try((repeat(revert hN;revert N;apply Pn.out));refine wk (tw @nO (tw @c0 (tw @c2 (tw @c7 (tw @c8 (tw @c9 (tw @jC (tw @hk (tw @Dv (tw @Du (tw @zD (tw @lP (tw @tH (tw @DF (tw @qw @bH.eq_1))))))))))))))) ?_;(repeat(refine Pn.mk ?_;intro N hN))))
  refine .inr (bf _ _ _ _ _ (fun r σ1 hq=>?_) (O3 cnt bs f' HC ed v he X A F ⟨st_c.get,_⟩ nb (hN1.frame (fun i _=>mD i) (Nat.le_refl _)) (by(try dsimp only);omega)))
  obtain⟨Sw,l9,IJ⟩:=hq
  (try dsimp only at l9 IJ)
  refine hN _ _ ?_
  clear hN N
  (try((repeat(revert hN;revert N;apply Pn.out));refine wk (tw @nO (tw @c0 (tw @c2 (tw @c7 (tw @c8 @c9))))) ?_;(repeat(refine Pn.mk ?_;intro N hN))))
  refine⟨_,?_,bW bs ed v,tQ bs f' ed v,rfl,oV ok he,by omega,sd @Nat.zero_add,hW.step he pV hr KH,Sw,fun i hi hF=>by rw[IJ i hF,mD i,jm i hi hF],by(try dsimp only);omega⟩
  omega
def tj (P:Program) (f:Nat) (args:List AV) (R:AV->Prop):Prop:=∀σ:aw,Call P f args ⟨V.ro σ.get,σ.next⟩ fun r0 σ'=>∃r',V.fz σ'.get 6 r0=some r'/\R r'
theorem Dj {P:Program} {f:Nat} {args:List AV} {g:Rows} {n:Nat} {R:AV->Prop} (h:Sound P f args ⟨V.ro g,n⟩ fun r0 σ'=>∃r',V.fz σ'.get 6 r0=some r'/\R r'):Sound P f args ⟨g,n⟩ fun r σ'=>R r/\σ'=⟨g,n⟩:=by
 intro hs D ι w vs S U A
 refine(AN (g0:=g) (K:=R) h (fun _ _ h=>h) S U A).mono ?_
 rintro e w' ⟨r,D',u,rfl,hR,T,S',hr⟩
 exact⟨r,g,n,D',ι,u,rfl,⟨hR,rfl⟩,T,S',U,Nat.le_refl _,hr⟩
theorem tj.x {P:Program} (hm:P.follows .mixedOrders=true) {f:Nat} {args:List AV} {R:AV->Prop} (h:tj P f args R) {σ:aw}:Call P f args σ fun r σ'=>R r/\σ'=σ:=
 gQ (Dj (gq hm (h σ)))
theorem tj.body {P:Program} {f:Nat} {args:List AV} {R:AV->Prop} {nt na:Nat} {body:VC} {res:List nL} (hf:mU P f=some ⟨nt,na,body,res⟩) (ha:na=args.length) (h:(∀a∈args,eE a)->∀σ:aw,dE (Call P) body (kH res fun r0 σ'=>∃r',V.fz σ'.get 6 r0=some r'/\R r') (bZ args) ⟨V.ro σ.get,σ.next⟩):tj P f args R:=fun σ=>mu hf ha fun hl=>h hl σ
theorem LW {g:Rows} {rows:List (List AV)} {xs:List (List Nat)} {ids:List Id} (n:Nat) (h:eU PO g rows xs ids):ev g (n+2) rows=some (xs.map fun l=>[Pd l]):=by
 induction h with
 |nil=>rw[ev];rfl
 |cons h1 _ ih=>
  rename_i x _ _ _ _ _
  rcases h1 with⟨h0,h1,_⟩|⟨id,h1,h0,h2,_⟩
  ·subst h0 h1;rw[ev,ih,ah,aq,aP];rfl
  ·have ik:x≠[]:=by rintro rfl;simp at h0
   subst h1
   rw[ev,ih,ah,aq,gr (e:=eN) (sz:=1) h2 rfl fun a=>fzN _ n a]
   simp[Pd,ik]
theorem oe.fz0 {cnt:Nat} {bs:List PB} {f:Nat->Int} {X A F:Id} {g:Rows} {nx:Nat} (h:oe cnt bs f X A F g nx):V.fz g 5 (.ptr X 0 0)=some (.cR (fU cnt bs f)):=by
 have hf:V.fz g 4 (.own F 0 bs.length)=some (.sl (eo f bs.length)):=by
  rw[iv]
  simp only[h.f,if_true]
  rw[if_pos (by rw[dM];omega),List.drop_zero,List.take_of_length_le (by rw[dM];omega),Ap];rfl
 have ha:V.fz g 4 (.own A 0 cnt)=some (.sl (qg cnt bs bs.length)):=by
  obtain⟨rows,ids,h1,h2,_,_⟩:=h.a
  have hl:=h2.len
  rw[jw]at hl
  rw[iv]
  simp only[h1,if_true]
  rw[if_pos (by omega),List.drop_zero,List.take_of_length_le (by omega),LW 1 h2]
  simp[lD,qg]
 rw[aV]
 simp only[h.x,if_true,List.getElem?_cons_zero,List.drop_zero,bH,ah,aq,aF,bK,ha,hf,Option.map_some,fU]
theorem ER {S:Nat->Bool}:∀bs:List PB,(∀b∈bs,b.s<=4)->jh S bs<=4*bs.length
 |[],_=>by simp[jh]
 |b::bs,h=>by
  rw[sE]
  have:=ER (S:=S) bs fun x hx=>h x (List.mem_cons_of_mem _ hx)
  have:=h b (by simp)
  simp only[List.length_cons]
  split<;>omega
theorem j5.zero {bs:List PB} {x y:Nat} (h:∀e,e<bs.length->0<=(cr bs e).s/\(cr bs e).s<=4):j5 bs (fun _=>0) x y 0:=
 ⟨fun i hi=>by have:=h i hi;omega,fun S _ _=>jX fun i _=>by simp⟩
theorem K1 {bs:List PB} {b:PB} (h:b∈bs):∃e,e<bs.length/\cr bs e=b:=by
 obtain⟨e,he,rfl⟩:=List.getElem_of_mem h
 exact⟨e,he,by simp[cr,List.getD_eq_getElem?_getD,he]⟩
theorem GF (cnt:Nat) (hn:cnt<=1048576) (bs:List PB) (ok:nB cnt bs) (nX:bs.length<=1048576) (dK:∀e,e<bs.length->0<=(cr bs e).s/\(cr bs e).s<=4) (x y:Nat) (hx:x<cnt) (hy:y<cnt) (Rx:x≠y):
  tj Tryz.prog 193 [.int .i64 cnt,.sl (bs.map aA),.int .i64 x,.int .i64 y] fun r=>∃f val,r=.gy [.cR (fU cnt bs f),.int .i64 val]/\j5 bs f x y val/\∃S:Nat->Bool,S x=true/\S y=false/\val=jh S bs:=by
 refine tj.body eH rfl fun hl σ=>?_
 clear hl
 (try((repeat(revert hN;revert N;apply Pn.out));refine wk @Nat.zero_add ?_;(repeat(refine Pn.mk ?_;intro N hN))))
 refine .inr (bf _ _ _ _ _ (fun r σ1 hq=>?_) (Jj cnt hn bs ok nX _))
 obtain⟨X,A,F,rfl,hX,hS⟩:=hq
 refine hN _ _ ?_
 clear hN N
 have hS0:∀f val,j5 bs f x y val->val<=jh (fun v=>decide (v=x)) bs:=fun f val hf=>hf.bound (decide_eq_true rfl) (decide_eq_false fun h=>Rx h.symm)
 have htot:=ER (S:=fun v=>decide (v=x)) bs fun b hb=>by
  obtain⟨e,he,rfl⟩:=K1 hb
  exact(dK e he).2
 generalize jh (fun v=>decide (v=x)) bs=T at *
 (try((repeat(revert hN;revert N;apply Pn.out));refine wk @Nat.zero_add ?_;(repeat(refine Pn.mk ?_;intro N hN))))
 refine aZ (fun m env st=>∃(f:Nat->Int) (val:Int),m=(T-val).toNat/\0<=val/\env 10=.ptr X 0 0/\env 11=.int .i64 val/\j5 bs f x y val/\oe cnt bs f X A F st.get σ1.next/\σ1.next<=st.next) T.toNat ⟨_,0,by simp,by omega,by(simp only[go_sem, ↓reduceIte,Nat.reduceEqDiff,Nat.reduceAdd,Nat.reduceSub,Nat.reduceLeDiff,reduceCtorEq]),by(simp only[go_sem, ↓reduceIte,Nat.reduceEqDiff,Nat.reduceAdd,Nat.reduceSub,Nat.reduceLeDiff,reduceCtorEq]),j5.zero dK,hS.frame (fun i hi=>rfl) (Nat.le_refl _),by(try dsimp only);omega⟩ ?_
 rintro m env_b st_b ⟨f,val,rfl,so,xd,b11,hf,hN1,hle⟩ fM
 have b2:=fM 2 (by kernel_rfl)
 have b3:=fM 3 (by kernel_rfl)
 simp only[go_sem, ↓reduceIte,Nat.reduceEqDiff,Nat.reduceAdd,Nat.reduceSub,Nat.reduceLeDiff,reduceCtorEq]at b2 b3
 clear fM
 (try((repeat(revert hN;revert N;apply Pn.out));refine wk (tw @b2 (tw @b3 @xd)) ?_;(repeat(refine Pn.mk ?_;intro N hN))))
 refine .inr (bf _ _ _ _ _ (fun r σ2 hq=>?_) (NZ cnt hn bs ok nX dK f x y hx hy Rx val hf X A F ⟨st_b.get,_⟩ σ1.next hN1 (by(try dsimp only);omega)))
 obtain⟨b,f',rfl,Sw,l9,_,jH,U3⟩:=hq
 (try dsimp only at l9)
 refine hN _ _ ?_
 clear hN N
 cases b with
 |true=>
  have iP:=U3 rfl
  have KE:=hS0 _ _ hf
  have Gd:=hS0 _ _ iP
  have hw:IntKind.i64.wrap (val+1)=val+1:=bU (by omega)
  (try((repeat(revert hN;revert N;apply Pn.out));refine wk (tw @xd (tw @b11 @hw)) ?_;(repeat(refine Pn.mk ?_;intro N hN))))
  exact⟨_,by omega,f',val+1,rfl,by omega,sd @xd,sd (tw @b11 @hw),iP,Sw,by(try dsimp only);omega⟩
 |false=>
  obtain⟨rfl,S,h1,h2,h3⟩:=jH rfl
  (try((repeat(revert hN;revert N;apply Pn.out));refine wk (tw @xd @b11) ?_;(repeat(refine Pn.mk ?_;intro N hN))))
  have hz:=Sw.fz0
  exact⟨[.ptr X 0 0,.int .i64 val],sd @Nat.zero_add,.gy [.cR (fU cnt bs f'),.int .i64 val],by simp only[eL,bF,ah,aq,hz,aF,Option.map_some],f',val,rfl,hf,S,h1,h2,h3⟩
theorem GG (cnt:Nat) (hn:cnt<=1048576) (bs:List PB) (ok:nB cnt bs) (nX:bs.length<=1048576) (f:Nat->Int) (hs:Small bs f) (y:Nat) (hy:y<cnt):
  mo Tryz.prog 194 [.cR (fU cnt bs f),.int .i64 y] fun r=>∃l:List Nat,r=.sl (l.map eN)/\l.length<=cnt:=by
 refine mo.body eH rfl fun hl n0=>?_
 clear hl
 have hz:∀g:Rows,dc (dD g) 6 [.cR (fU cnt bs f),.int .i64 (y:Int)]=some [.cR (fU cnt bs f),.int .i64 y]:=fun g=>by simp only[ah,aq,aN,aF,Option.map_some]
 (try((repeat(revert hN;revert N;apply Pn.out));refine wk @Nat.zero_add ?_;(repeat(refine Pn.mk ?_;intro N hN))))
 refine .inr (bf _ _ _ _ _ (fun r σ1 hq=>?_) ((FA cnt hn bs ok nX f hs y hy).x mixed (hz _)))
 obtain⟨⟨out,rfl,OH⟩,rfl⟩:=hq
 refine hN _ _ ?_
 clear hN N
 (try((repeat(revert hN;revert N;apply Pn.out));refine wk @fU.eq_1 ?_;(repeat(refine Pn.mk ?_;intro N hN))))
 refine aZ (fun n env st=>∃k:Nat,n=(cnt)-k/\k<=(cnt)/\env 7=.int .i64 (k:Int)/\(∃(o:Id) (l:List Nat),env 6=.own o 0 l.length/\st.get o=some ⟨true,1,l.map eN⟩/\o.bY<st.next/\l.length<=k)) (cnt) ⟨0,by omega,by omega,sl @fU.eq_1,⟨⟨194002000,n0+1+1+1⟩,[],by(simp only[go_sem, ↓reduceIte,Nat.reduceEqDiff,Nat.reduceAdd,Nat.reduceSub,Nat.reduceLeDiff,reduceCtorEq])<;>rfl,by(simp only[go_sem, ↓reduceIte,Nat.reduceEqDiff,Nat.reduceAdd,Nat.reduceSub,Nat.reduceLeDiff,reduceCtorEq])<;>rfl,by(try dsimp only);omega,by simp⟩⟩ ?_
 rintro n_a env_a st_a ⟨k,rfl,ale,a7,qQ⟩ ez
 have a0:=ez 0 (by kernel_rfl);have a5:=ez 5 (by kernel_rfl)
 simp only[go_sem, ↓reduceIte,Nat.reduceEqDiff,Nat.reduceAdd,Nat.reduceSub,Nat.reduceLeDiff,reduceCtorEq,fU]at a0 a5
 clear ez
 obtain⟨o,l,a6,ag,yl,yj⟩:=qQ
 have so:=dP yl
 have eF:(l.map eN).length=l.length:=by simp
 by_cases hk:(k:Int)<(cnt:Int)
 ·have dd:∀{e:Env} {gg:Rows} {nx:Nat},(e 7=.int .i64 (IntKind.i64.wrap ((k:Int)+1)))->(∃(o:Id) (l:List Nat),e 6=.own o 0 l.length/\gg o=some ⟨true,1,l.map eN⟩/\o.bY<nx/\l.length<=(k+1))->∃m0,m0<(cnt)-k/\∃k:Nat,m0=(cnt)-k/\k<=(cnt)/\e 7=.int .i64 (k:Int)/\(∃(o:Id) (l:List Nat),e 6=.own o 0 l.length/\gg o=some ⟨true,1,l.map eN⟩/\o.bY<nx/\l.length<=k):=fun x1 x2=>⟨_,by omega,k+1,rfl,by omega,(by rw[x1,az (by omega)]),x2⟩
  have vU:=ef (f:=out) (show k<cnt by omega)
  rw[bJ]at vU
  have e1:l.length+1<=16777216:=by omega
  by_cases h0:0<=out k
  ·(try((repeat(revert hN;revert N;apply Pn.out));refine wk (tw @a7 (tw @a0 (tw @a5 (tw @a6 (tw @ag (tw @so (tw @hk (tw @vU (tw @h0 (tw @e1 (tw @eF @fU.eq_1))))))))))) ?_;(repeat(refine Pn.mk ?_;intro N hN))))
   exact dd (sd (tw @a7 (tw @a0 (tw @a5 @fU.eq_1)))) (⟨⟨194007003,st_a.next+1+1⟩,l++[k],by rw[List.length_append];simp only[go_sem, ↓reduceIte,Nat.reduceEqDiff,Nat.reduceAdd,Nat.reduceSub,Nat.reduceLeDiff,reduceCtorEq,List.length_cons,List.length_nil],by rw[List.map_append,List.map_cons,List.map_nil];simp only[go_sem, ↓reduceIte,Nat.reduceEqDiff,Nat.reduceAdd,Nat.reduceSub,Nat.reduceLeDiff,reduceCtorEq,eN],by(try dsimp only);omega,by simp;omega⟩)
  ·(try((repeat(revert hN;revert N;apply Pn.out));refine wk (tw @a7 (tw @a0 (tw @a5 (tw @a6 (tw @ag (tw @so (tw @hk (tw @vU (tw @h0 (tw @eF @fU.eq_1)))))))))) ?_;(repeat(refine Pn.mk ?_;intro N hN))))
   exact dd (sd (tw @a7 (tw @a0 (tw @a5 @fU.eq_1)))) (⟨o,l,sd @a6,sd @ag,by(try dsimp only);omega,by omega⟩)
 ·(try((repeat(revert hN;revert N;apply Pn.out));refine wk (tw @a7 (tw @a0 (tw @a5 (tw @a6 (tw @hk @fU.eq_1))))) ?_;(repeat(refine Pn.mk ?_;intro N hN))))
  have sL:gD st_a.get 6 (.own o 0 l.length)=some (.sl (l.map eN)):=eY ag rfl fun b=>NW _ 4 b
  exact⟨_,rfl,_,by simp only[go_sem, ↓reduceIte,Nat.reduceEqDiff,Nat.reduceAdd,Nat.reduceSub,Nat.reduceLeDiff,reduceCtorEq,eL];exact sL,l,rfl,by omega⟩
theorem BU (v1 v2:Int) (l1 l2:List Nat) (h1:l1.length<=1048576) (h2:l2.length<=1048576):
  mo Tryz.prog 195 [.int .i64 v1,.sl (l1.map eN),.int .i64 v2,.sl (l2.map eN)] fun r=>∃b,r=.bool b/\(v1<v2->b=true)/\(v2<v1->b=false):=by
 refine mo.body eH rfl fun hl n0=>?_
 clear hl
 have ret:∀{t:Nat} {env:Env} {σ:aw} {b:Bool} {x:Ex},(x=.ret∨x=.normal)->env t=.bool b->((v1<v2->b=true)/\(v2<v1->b=false))->kH [.tmp t] (fun r0 σ'=>∃r',gD σ'.get 6 r0=some r'/\∃b,r'=.bool b/\(v1<v2->b=true)/\(v2<v1->b=false)) x env σ:=by
  intro t env σ b x hx he hb
  have:∃vs,fe env σ.get [.tmp t]=some vs/\∃r',gD σ.get 6 (eL vs)=some r'/\∃b,r'=.bool b/\(v1<v2->b=true)/\(v2<v1->b=false):=⟨[env t],rfl,.bool b,by rw[he];exact eM _ _ _,b,rfl,hb⟩
  rcases hx with rfl|rfl
  ·exact this
  ·exact this
 have m1:(l1.map eN).length=l1.length:=by simp
 have m2:(l2.map eN).length=l2.length:=by simp
 by_cases hv:v1=v2
 ·have hd:decide (v1=v2)=true:=decide_eq_true hv
  by_cases yj:(l1.length:Int)=(l2.length:Int)
  ·have nQ:decide ((l1.length:Int)=(l2.length:Int))=true:=decide_eq_true yj
   have QX:decide (l1.length=l2.length)=true:=decide_eq_true (by omega)
   (try((repeat(revert hN;revert N;apply Pn.out));refine wk (tw @hd (tw @nQ (tw @QX (tw @m1 @m2)))) ?_;(repeat(refine Pn.mk ?_;intro N hN))))
   refine aZ (fun n env st=>∃k:Nat,n=(l1.length)-k/\k<=(l1.length)/\env 9=.int .i64 (k:Int)) (l1.length) ⟨0,by omega,by omega,sl @Nat.zero_add⟩ ?_
   rintro n_a env_a st_a ⟨k,rfl,ale,a9⟩ ez
   have a1:=ez 1 (by kernel_rfl);have a3:=ez 3 (by kernel_rfl)
   simp only[go_sem, ↓reduceIte,Nat.reduceEqDiff,Nat.reduceAdd,Nat.reduceSub,Nat.reduceLeDiff,reduceCtorEq]at a1 a3
   clear ez
   by_cases hk:(k:Int)<(l1.length:Int)
   ·have dd:∀{e:Env},(e 9=.int .i64 (IntKind.i64.wrap ((k:Int)+1)))->∃m0,m0<(l1.length)-k/\∃k:Nat,m0=(l1.length)-k/\k<=(l1.length)/\e 9=.int .i64 (k:Int):=fun x1=>⟨_,by omega,k+1,rfl,by omega,(by rw[x1,az (by omega)])⟩
    have g1:(l1.map eN)[k]? =some (eN (l1.getD k 0)):=getD_map eN (by omega)
    have g2:(l2.map eN)[k]? =some (eN (l2.getD k 0)):=getD_map eN (by omega)
    rw[eN]at g1 g2
    by_cases he:((l1.getD k 0:Nat):Int)=((l2.getD k 0:Nat):Int)
    ·have QY:decide (((l1.getD k 0:Nat):Int)=((l2.getD k 0:Nat):Int))=true:=decide_eq_true he
     have T6:decide (l1.getD k 0=l2.getD k 0)=true:=decide_eq_true (by omega)
     (try((repeat(revert hN;revert N;apply Pn.out));refine wk (tw @a9 (tw @a1 (tw @a3 (tw @hk (tw @m1 (tw @g1 (tw @g2 (tw @QY @T6)))))))) ?_;(repeat(refine Pn.mk ?_;intro N hN))))
     exact dd (sd (tw @a9 (tw @a1 @a3)))
    ·have QY:decide (((l1.getD k 0:Nat):Int)=((l2.getD k 0:Nat):Int))=false:=decide_eq_false he
     have T6:decide (l1.getD k 0=l2.getD k 0)=false:=decide_eq_false (by omega)
     (try((repeat(revert hN;revert N;apply Pn.out));refine wk (tw @a9 (tw @a1 (tw @a3 (tw @hk (tw @m1 (tw @g1 (tw @g2 (tw @QY @T6)))))))) ?_;(repeat(refine Pn.mk ?_;intro N hN))))
     exact ret (.inl rfl) (by simp only[go_sem, ↓reduceIte,Nat.reduceEqDiff,Nat.reduceAdd,Nat.reduceSub,Nat.reduceLeDiff,reduceCtorEq];rfl) ⟨fun h=>by omega,fun h=>by omega⟩
   ·(try((repeat(revert hN;revert N;apply Pn.out));refine wk (tw @a9 (tw @a1 (tw @a3 (tw @hk @m1)))) ?_;(repeat(refine Pn.mk ?_;intro N hN))))
    exact ret (b:=false) (.inl rfl) (sd @Nat.zero_add) ⟨fun h=>by omega,fun h=>by omega⟩
  ·have nQ:decide ((l1.length:Int)=(l2.length:Int))=false:=decide_eq_false yj
   have QX:decide (l1.length=l2.length)=false:=decide_eq_false (by omega)
   (try((repeat(revert hN;revert N;apply Pn.out));refine wk (tw @hd (tw @nQ (tw @QX (tw @m1 @m2)))) ?_;(repeat(refine Pn.mk ?_;intro N hN))))
   exact ret (.inl rfl) (by simp only[go_sem, ↓reduceIte,Nat.reduceEqDiff,Nat.reduceAdd,Nat.reduceSub,Nat.reduceLeDiff,reduceCtorEq];rfl) ⟨fun h=>by omega,fun h=>by omega⟩
 ·have hd:decide (v1=v2)=false:=decide_eq_false hv
  (try((repeat(revert hN;revert N;apply Pn.out));refine wk @hd ?_;(repeat(refine Pn.mk ?_;intro N hN))))
  exact ret (b:=decide (v1<v2)) (.inl rfl) (sd @Nat.zero_add) ⟨fun h=>decide_eq_true h,fun h=>decide_eq_false (by omega)⟩
def uM (bs:List PB) (cnt:Nat) (jq:Int) (k:Nat):Prop:=(k=1/\jq= -1)∨(0<=jq/\(∀z,1<=z->z<k->∀S:Nat->Bool,S 0=true->S z=false->jq<=jh S bs)/\∃S:Nat->Bool,S 0=true/\(∃z,z<cnt/\S z=false)/\jq=jh S bs)
theorem j5.nn {bs:List PB} {val:Int} {S:Nat->Bool} (dK:∀e,e<bs.length->0<=(cr bs e).s/\(cr bs e).s<=4) (h:val=jh S bs):0<=val:=by
 rw[h,vh]
 have:=r6 (f:=fun _=>0) (g:=fun i=>if S (cr bs i).a=S (cr bs i).b then 0 else(cr bs i).s) (n:=bs.length) fun i hi=>by
  have:=dK i hi
  split<;>omega
 rw[jX fun _ _=>rfl]at this
 exact this
theorem uM.done {bs:List PB} {cnt:Nat} {jq:Int} (hc:2<=cnt) (h:uM bs cnt jq cnt) (t:Int):t<=jq↔kM cnt bs t:=by
 rcases h with⟨h,_⟩|⟨_,h1,S,h2,⟨z,hz,lR⟩,h3⟩
 ·omega
 ·constructor
  ·intro ht S h0 ⟨y,hy,hy2⟩
   have:y≠0:=by rintro rfl;rw[h0]at hy2;cases hy2
   have:=h1 y (by omega) hy S h0 hy2
   omega
  ·intro hH
   rw[h3];exact hH S h2 ⟨z,hz,lR⟩
theorem zP (cnt:Nat) (h2:2<=cnt) (hn:cnt<=1048576) (bs:List PB) (ok:nB cnt bs) (nX:bs.length<=1048576) (dK:∀e,e<bs.length->0<=(cr bs e).s/\(cr bs e).s<=4):
  tj Tryz.prog 126 [.int .i64 cnt,.sl (bs.map aA)] fun r=>∃jq p,r=.gy [.int .i64 jq,p]/\∀t:Int,t<=jq↔kM cnt bs t:=by
 refine tj.body eH rfl fun hl σ=>?_
 clear hl
 (try((repeat(revert hN;revert N;apply Pn.out));refine wk @Nat.zero_add ?_;(repeat(refine Pn.mk ?_;intro N hN))))
 have z0:∀(g:Rows) (id:Id),g id=some ⟨true,1,[]⟩->V.fz (dD g) 6 (.own id 0 0)=some (.sl (([]:List Nat).map eN))/\V.fz g 5 (.own id 0 0)=some (.sl (([]:List Nat).map eN)):=fun g id h=>by
  have h':dD g id=some ⟨true,1,[]⟩:=by simp[dD,h]
  constructor
  ·rw[iv];simp only[h',if_true];rw[if_pos (by simp)];simp[oG]
  ·rw[iv];simp only[h,if_true];rw[if_pos (by simp)];simp[oG]
 refine aZ (fun m env st=>∃(k:Nat) (jq:Int) (l:List Nat) (p:AV),m=cnt-k/\1<=k/\k<=cnt/\env 8=.int .i64 (k:Int)/\env 6=.int .i64 jq/\env 7=p/\V.fz (dD st.get) 6 p=some (.sl (l.map eN))/\V.fz st.get 5 p=some (.sl (l.map eN))/\l.length<=cnt/\uM bs cnt jq k) (cnt-1) ⟨1,-1,[],.own ⟨126002000,σ.next+1+1⟩ 0 0,rfl,by omega,by omega,by(simp only[go_sem, ↓reduceIte,Nat.reduceEqDiff,Nat.reduceAdd,Nat.reduceSub,Nat.reduceLeDiff,reduceCtorEq])<;>rfl,by(simp only[go_sem, ↓reduceIte,Nat.reduceEqDiff,Nat.reduceAdd,Nat.reduceSub,Nat.reduceLeDiff,reduceCtorEq])<;>rfl,by(simp only[go_sem, ↓reduceIte,Nat.reduceEqDiff,Nat.reduceAdd,Nat.reduceSub,Nat.reduceLeDiff,reduceCtorEq])<;>rfl,(z0 _ _ (sd @Nat.zero_add)).1,(z0 _ _ (sd @Nat.zero_add)).2,by simp,.inl ⟨rfl,rfl⟩⟩ ?_
 rintro m env_b st_b ⟨k,jq,l,p,rfl,sk,mC,b8,b6,b7,yp,lR,hl,hB⟩ fM
 have b0:=fM 0 (by kernel_rfl)
 have b1:=fM 1 (by kernel_rfl)
 simp only[go_sem, ↓reduceIte,Nat.reduceEqDiff,Nat.reduceAdd,Nat.reduceSub,Nat.reduceLeDiff,reduceCtorEq]at b0 b1
 clear fM z0
 by_cases hk:(k:Int)<(cnt:Int)
 ·have fm:k<cnt:=by omega
  have hFl:=GF cnt hn bs ok nX dK 0 k (by omega) fm (by omega)
  rw[show(((0:Nat):Int))=0 from rfl]at hFl
  (try((repeat(revert hN;revert N;apply Pn.out));refine wk (tw @b0 (tw @b1 (tw @b6 (tw @b7 (tw @b8 @hk))))) ?_;(repeat(refine Pn.mk ?_;intro N hN))))
  refine .inr (bf _ _ _ _ _ (fun r σ1 hq=>?_) (hFl.x mixed))
  obtain⟨⟨f,val,rfl,hf,S,Og,Oh,Sx⟩,rfl⟩:=hq
  refine hN _ _ ?_
  clear hN N
  have HC:=wS dK hf.le
  have qD:=j5.nn (val:=val) dK Sx
  (try((repeat(revert hN;revert N;apply Pn.out));refine wk (tw @b0 (tw @b1 (tw @b6 (tw @b7 @b8)))) ?_;(repeat(refine Pn.mk ?_;intro N hN))))
  refine .inr (bf _ _ _ _ _ (fun r σ1 hq=>?_) ((GG cnt hn bs ok nX f HC k fm).x mixed (by simp only[ah,aq,aN,aF,Option.map_some])))
  obtain⟨⟨l',rfl,KM⟩,rfl⟩:=hq
  refine hN _ _ ?_
  clear hN N
  have hw:IntKind.i64.wrap ((k:Int)+1)=((k+1:Nat):Int):=az (by omega)
  have RY:(∀z,1<=z->z<k->∀S:Nat->Bool,S 0=true->S z=false->val<=jh S bs)->uM bs cnt val (k+1):=fun h=>.inr ⟨qD,fun z yp lR S' h0 h1=>by
   by_cases xh:z=k
   ·subst xh;exact hf.bound h0 h1
   ·exact h z yp (by omega) S' h0 h1,S,Og,⟨k,fm,Oh⟩,Sx⟩
  by_cases j9:jq<0
  ·have Bt:k=1:=by
    rcases hB with⟨h,_⟩|⟨h,_⟩
    ·exact h
    ·omega
   (try((repeat(revert hN;revert N;apply Pn.out));refine wk (tw @b0 (tw @b1 (tw @b6 (tw @b7 (tw @b8 (tw @j9 @hw)))))) ?_;(repeat(refine Pn.mk ?_;intro N hN))))
   refine⟨_,?_,k+1,val,l',.sl (l'.map eN),rfl,by omega,by omega,sd (tw @b8 @hw),sd @Nat.zero_add,sd @Nat.zero_add,bK _ _ _,bK _ _ _,KM,RY fun z h1 h2=>by omega⟩
   omega
  ·have Bt:(∀z,1<=z->z<k->∀S:Nat->Bool,S 0=true->S z=false->jq<=jh S bs)/\∃S:Nat->Bool,S 0=true/\(∃z,z<cnt/\S z=false)/\jq=jh S bs:=by
    rcases hB with⟨_,h⟩|⟨_,h⟩
    ·omega
    ·exact h
   (try((repeat(revert hN;revert N;apply Pn.out));refine wk (tw @b0 (tw @b1 (tw @b6 (tw @b7 (tw @b8 (tw @j9 @hw)))))) ?_;(repeat(refine Pn.mk ?_;intro N hN))))
   refine .inr (bf _ _ _ _ _ (fun r σ1 hq=>?_) ((BU val jq l' l (by omega) (by omega)).x mixed (by simp only[ah,aq,bK,aF,yp,Option.map_some])))
   obtain⟨⟨b,rfl,KE,Gd⟩,rfl⟩:=hq
   refine hN _ _ ?_
   clear hN N
   cases b with
   |true=>
    have UX:val<=jq:=by
     rcases Int.lt_or_le jq val with h|h
     ·exact absurd (Gd h) (by simp)
     ·exact h
    (try((repeat(revert hN;revert N;apply Pn.out));refine wk (tw @b0 (tw @b1 (tw @b6 (tw @b7 (tw @b8 @hw))))) ?_;(repeat(refine Pn.mk ?_;intro N hN))))
    refine⟨_,?_,k+1,val,l',.sl (l'.map eN),rfl,by omega,by omega,sd (tw @b8 @hw),sd @Nat.zero_add,sd @Nat.zero_add,bK _ _ _,bK _ _ _,KM,RY fun z h1 h2 S' h3 h4=>by have:=Bt.1 z h1 h2 S' h3 h4;omega⟩
    omega
   |false=>
    have UX:jq<=val:=by
     rcases Int.lt_or_le val jq with h|h
     ·exact absurd (KE h) (by simp)
     ·exact h
    (try((repeat(revert hN;revert N;apply Pn.out));refine wk (tw @b0 (tw @b1 (tw @b6 (tw @b7 (tw @b8 @hw))))) ?_;(repeat(refine Pn.mk ?_;intro N hN))))
    refine⟨_,?_,k+1,jq,l,p,rfl,by omega,by omega,sd (tw @b8 @hw),sd @b6,sd @b7,yp,lR,hl,.inr ⟨by omega,fun z h1 h2 S' h3 h4=>?_,Bt.2⟩⟩
    ·omega
    ·by_cases xh:z=k
     ·subst xh;have:=hf.bound h3 h4;omega
     ·exact Bt.1 z h1 (by omega) S' h3 h4
 ·have kq:k=cnt:=by omega
  (try((repeat(revert hN;revert N;apply Pn.out));refine wk (tw @b0 (tw @b1 (tw @b6 (tw @b7 (tw @b8 @hk))))) ?_;(repeat(refine Pn.mk ?_;intro N hN))))
  exact⟨[.int .i64 jq,p],sd @Nat.zero_add,.gy [.int .i64 jq,.sl (l.map eN)],by simp only[eL,bF,ah,aq,lR,aF,Option.map_some],jq,_,rfl,uM.done h2 (kq▸hB)⟩
end Go.Proofs.YtgoljkjaameagaaGreat.V

namespace Go.Proofs.YtgoljkjaameagaaGreat.V
open Go.RowKit
inductive n9:List AV->List AV->Prop
 |nil:n9 [] []
 |same (a) {l l'}:n9 l l'->n9 (a::l) (a::l')
 |ptr (cs rest) {l l'}:n9 l l'->n9 (.cR (cs++rest)::l) (.cR cs::l')
 |cm {l l'}:n9 l l'->n9 (.cm::l) (.sl []::l')
theorem Mf {P:Program} {w:World} {D:Nat->Prop} {ι:Names} {cs rest:List AV} {v:Value} (h:cW P w D ι (.cR (cs++rest)) v):cW P w D ι (.cR cs) v:=by
 obtain⟨b,o,vs,rfl,h1,h2,h3,h4⟩:=k8 h
 exact .eQ _ _ (.cR cs b o vs h1 (fun a ha=>h2 a (List.mem_append_left _ ha)) (fun j hj=>h3 j (by rw[List.length_append];omega)) fun j a ha=>h4 j a (by
  have:=(List.getElem?_eq_some_iff.1 ha).1
  rw[List.getElem?_append_left this];exact ha))
theorem Mh {P:Program} {w:World} {D:Nat->Prop} {ι:Names} {v:Value} (h:cW P w D ι .cm v):cW P w D ι (.sl []) v:=by
 cases h with
 |eQ _ _ h=>
  cases h with
  |cm=>exact .eQ _ _ (.AL none 0 (Nat.zero_le _))
theorem n9.len {l l':List AV} (h:n9 l l'):l'.length=l.length:=by induction h<;>simp_all
theorem n9.get {P:Program} {w:World} {D:Nat->Prop} {ι:Names} {l l':List AV} (h:n9 l l'):∀{j:Nat} {a':AV},l'[j]? =some a'->∃a,l[j]? =some a/\∀v,cW P w D ι a v->cW P w D ι a' v:=by
 induction h with
 |nil=>intro j a' hj;simp at hj
 |same a _ ih=>
  intro j a' hj
  cases j with
  |zero=>simp at hj;subst hj;exact⟨a,rfl,fun _ h=>h⟩
  |succ j=>exact ih (by simpa using hj)
 |ptr cs rest _ ih=>
  intro j a' hj
  cases j with
  |zero=>simp at hj;subst hj;exact⟨_,rfl,fun _ h=>Mf h⟩
  |succ j=>exact ih (by simpa using hj)
 |cm _ ih=>
  intro j a' hj
  cases j with
  |zero=>simp at hj;subst hj;exact⟨_,rfl,fun _ h=>Mh h⟩
  |succ j=>exact ih (by simpa using hj)
theorem Call.cut {P:Program} (hm:P.follows .mixedOrders=true) {f:Nat} {args eC:List AV} {σ:aw} {K:AV->aw->Prop} (hc:n9 args eC) (h:Call P f eC σ K):Call P f args σ K:=
 gQ fun hs D ι w vs S U A=>gq hm h hs D ι w vs S U ⟨by rw[A.1,hc.len],fun j a' hj=>by
  obtain⟨a,ha,hr⟩:=hc.get (P:=P) (w:=w) (D:=D) (ι:=ι) hj
  obtain⟨u,hu,hv⟩:=A.2 j a ha
  exact⟨u,hu,hr u hv⟩⟩
theorem aj.cut {P:Program} (hm:P.follows .mixedOrders=true) {f:Nat} {args eC:List AV} {r:AV} (hc:n9 args eC) (h:aj P f eC r):aj P f args r:=fun n=>(h n).cut hm hc
theorem l8.cut {P:Program} (hm:P.follows .mixedOrders=true) {f:Nat} {args eC:List AV} {r:AV} (hc:n9 args eC) (h:l8 P f eC r):l8 P f args r:=fun σ=>Call.cut hm hc (h σ)
end Go.Proofs.YtgoljkjaameagaaGreat.V

namespace Go.Proofs.YtgoljkjaameagaaGreat.V
open Go.RowKit
attribute [local irreducible] dE wpOps fS Call
attribute [local go_sem] aH fq eG fH fG cX upd bZ K.av cD AV.cells AV.cell rowOf rowsOf part ld rowAt br bP dn dR gK bx cQ eb fD eS di dW cN cL dH dI bD aW cF bB cH cG dU dX dV cE bG cP dS bz aI cJ cq gJ bj cz bE aT de aX dp AV.undef bq bt dL dQ dB dz cw ea ee cj dZ dY cI cK List.getD_cons_zero List.getD_cons_succ List.getD_nil List.all_cons List.all_nil Bool.and_true Bool.true_and Bool.and_self Bool.not_true Bool.not_false Option.map_some Option.map_none Option.bind_some Option.bind_none List.length_cons List.length_nil List.take_succ_cons List.take_zero List.take_nil List.drop_succ_cons List.drop_zero List.drop_nil List.head?_cons List.map_cons List.map_nil List.getElem?_cons_zero List.getElem?_cons_succ List.cons_append List.nil_append List.append_nil List.length_map List.set_cons_zero List.set_cons_succ Nat.reduceMul eq_self Int.toNat_natCast Int.natCast_nonneg and_self true_and and_true decide_true decide_false Bool.false_eq_true Nat.zero_add Nat.add_zero List.contains_cons List.contains_nil Bool.or_false Bool.false_or beq_self_eq_true Nat.reduceBEq ne_eq not_true_eq_false not_false_eq_true Id.mk.injEq false_and and_false Nat.reduceLT Int.reduceLE Int.reduceLT Int.reduceToNat Int.reduceNeg Int.reduceAdd Nat.le_refl List.length_append beq_true beq_false Bool.not_eq_eq_eq_not or_false false_or dD ah aq aF aY bp bK aP bc aN aV cC bF
theorem Mn {s:ay} (hS:iA s) (a d:Int):td s (dw (dx s a) d)<=4:=by
 have hF:=hS.form
 have fc:dw (dx s a) d=0∨(0<=dw (dx s a) d/\dw (dx s a) d<=s.aE.length):=by
  unfold dw dx
  rw[List.getD_eq_getElem?_getD,List.getD_eq_getElem?_getD]
  rcases ht:s.ai[a.toNat]? with _|t
  ·exact .inl (by simp[zY])
  ·have Rq:=List.mem_of_getElem? ht
   simp only[Option.getD_some]
   rcases hg:t.cu[d.toNat]? with _|g
   ·exact .inl rfl
   ·exact .inr (hF.vL t Rq g (List.mem_of_getElem? hg))
 unfold td
 by_cases h0:dw (dx s a) d=0
 ·rw[if_pos h0];omega
 ·rw[if_neg h0]
  have hk:(dw (dx s a) d-1).toNat<s.aE.length:=by omega
  have:=ek (hS.Sm _ hk).2.1
  unfold pT at this
  unfold qu
  omega
theorem A7 {s:ay} (hS:iA s) (a d b:Int):gZ s a d b<=4:=by
 unfold gZ
 split
 ·exact Mn hS a d
 ·omega
theorem FV {s:ay} {l:List ab} (hS:iA s) {i:Nat} (hi:i<l.length) {d:Int}:∀b∈nh s l i d,b.a<l.length/\b.b<l.length/\0<=b.s/\b.s<=4:=by
 intro b hb
 unfold nh at hb
 split at hb
 ·rename_i h
  simp only[List.mem_singleton]at hb
  subst hb
  exact⟨hi,(gj h.1).1,by simp only;omega,A7 hS ..⟩
 ·cases hb
theorem xU {s:ay} {l:List ab} (hS:iA s):∀b∈cY s l,b.a<l.length/\b.b<l.length/\0<=b.s/\b.s<=4:=by
 intro b hb
 simp only[cY,gR,ga,List.mem_flatMap,List.mem_range]at hb
 obtain⟨i,hi,j,_,hb⟩:=hb
 exact FV hS hi b hb
theorem qh {s:ay} {l:List ab} (hF:jI l):(cY s l).length<=1000:=by
 have:=tt s l l.length
 have:=hF.lL
 rw[cY];omega
theorem H0 {bs:List PB} {e:Nat} (h:e<bs.length):cr bs e∈bs:=by
 rw[cr,List.getD_eq_getElem?_getD,List.getElem?_eq_getElem h];exact List.getElem_mem h
theorem Gj {n:Nat} {bs:List PB} {t:Int} (h:n<2):kM n bs t:=fun S h0 ⟨y,hy,hf⟩=>by
 have:y=0:=by omega
 subst this;rw[h0]at hf;cases hf
def iC (s:ay) (l:List ab) (t:Int):Nat:=(leads l.length (eB (aO t (cY s l)))).length
noncomputable def nJ (s:ay) (l:List ab) (t:Int):Bool:=@decide (pg l.length (cY s l) t) (Classical.propDecidable _)
def sF (s:ay) (l:List ab) (t:Int):Int:=if 64<iC s l t then 4 else 0
theorem mL {s:ay} {l:List ab} {t:Int} {p:Prop} [Decidable p] (h:p↔pg l.length (cY s l) t):decide p=nJ s l t:=by
 letI:=Classical.propDecidable (pg l.length (cY s l) t)
 unfold nJ
 by_cases hp:p
 ·rw[decide_eq_true hp];exact(decide_eq_true (h.1 hp)).symm
 ·rw[decide_eq_false hp];exact(decide_eq_false fun k=>hp (h.2 k)).symm
theorem BW (s:ay) (l:List ab) (t:Int) (hS:iA s) (hA:gL s l):aj Tryz.prog 168 [.cR (ad s),.cR [.sl (l.map aa)],.int .i64 t] (.gy [.bool (nJ s l t),.int .i64 (sF s l t)]):=by
 refine aj.body eH rfl fun hl n0=>?_
 clear hl
 have hb:=xU (l:=l) hS
 have nX:=qh (s:=s) hA.1
 have IH:=hA.1.lL
 have xf:=DO s l hS.form hA
 have KR:=BV l.length (by omega) (cY s l) (fun b h=>⟨(hb b h).1,(hb b h).2.1⟩) (by omega) t
 have hL:=tL (aO t (cY s l))
 have fc:=El hL (fun b h=>⟨(hb b h).1,(hb b h).2.1⟩)
 have hlen:=(ns (eB (aO t (cY s l))) (cY s l)).2
 have ly:=jR l.length (eB (aO t (cY s l)))
 have gh:(l.map aa).length=l.length:=by simp
 by_cases ub:(64:Int)<(iC s l t:Int)
 ·have ud:64<iC s l t:=by omega
  have hd:nJ s l t=false:=(mL (p:=False) ⟨False.elim,fun h=>by have:=h.1;unfold iC at ud;omega⟩).symm.trans (by simp)
  rw[iC]at ub
  (repeat(first|((repeat(revert hN;revert N;apply Pn.out));refine wk (tw @ad.eq_1 (tw @ub @gh)) ?_;(repeat(refine Pn.mk ?_;intro N hN)))|((try apply Or.inl);refine⟨_,aj.x (xf) (sd (tw @ad.eq_1 (tw @ub @gh))),?_⟩;refine hN _ _ ?_;clear hN N)|((try apply Or.inl);refine⟨_,aj.x (KR) (sd (tw @ad.eq_1 (tw @ub @gh))),?_⟩;refine hN _ _ ?_;clear hN N)))
  exact iW (.inl rfl) (r1:=.bool false) (r2:=.int .i64 4) (sd @Nat.zero_add) (sd @Nat.zero_add) (by rw[hd,sF,if_pos ud];simp only[dt,aS,bd,eM,dr,Option.map_some])
 have ud:¬64<iC s l t:=by omega
 have hf:sF s l t=0:=by rw[sF,if_neg ud]
 by_cases h2:(iC s l t:Int)<2
 ·have hd:nJ s l t=true:=(mL (p:=True) ⟨fun _=>⟨by unfold iC at ud;omega,Gj (by unfold iC at h2;omega)⟩,fun _=>trivial⟩).symm.trans (by simp)
  rw[iC]at ub h2
  (repeat(first|((repeat(revert hN;revert N;apply Pn.out));refine wk (tw @ad.eq_1 (tw @ub (tw @h2 @gh))) ?_;(repeat(refine Pn.mk ?_;intro N hN)))|((try apply Or.inl);refine⟨_,aj.x (xf) (sd (tw @ad.eq_1 (tw @ub (tw @h2 @gh)))),?_⟩;refine hN _ _ ?_;clear hN N)|((try apply Or.inl);refine⟨_,aj.x (KR) (sd (tw @ad.eq_1 (tw @ub (tw @h2 @gh)))),?_⟩;refine hN _ _ ?_;clear hN N)))
  exact iW (.inl rfl) (r1:=.bool true) (r2:=.int .i64 0) (sd @Nat.zero_add) (sd @Nat.zero_add) (by rw[hd,hf];simp only[dt,aS,bd,eM,dr,Option.map_some])
 have LG:=zP (iC s l t) (by omega) (by unfold iC;omega) (eZ (eB (aO t (cY s l))) (cY s l)) (fun e he=>by have:=fc _ (H0 he);exact⟨this.1,this.2.1,this.2.2.1⟩) (by omega) (fun e he=>by
  obtain⟨_,_,_,c,hc,dq⟩:=fc _ (H0 he)
  rw[dq];have:=hb c hc;omega)
 rw[iC]at ub h2 LG
 (repeat(first|((repeat(revert hN;revert N;apply Pn.out));refine wk (tw @ad.eq_1 (tw @ub (tw @h2 @gh))) ?_;(repeat(refine Pn.mk ?_;intro N hN)))|((try apply Or.inl);refine⟨_,aj.x (xf) (sd (tw @ad.eq_1 (tw @ub (tw @h2 @gh)))),?_⟩;refine hN _ _ ?_;clear hN N)|((try apply Or.inl);refine⟨_,aj.x (KR) (sd (tw @ad.eq_1 (tw @ub (tw @h2 @gh)))),?_⟩;refine hN _ _ ?_;clear hN N)))
 refine .inr (bf _ _ _ _ _ (fun r σ1 hq=>?_) (LG.x mixed))
 obtain⟨⟨jq,p,rfl,QS⟩,rfl⟩:=hq
 refine hN _ _ ?_
 clear hN N
 (try((repeat(revert hN;revert N;apply Pn.out));refine wk @Nat.zero_add ?_;(repeat(refine Pn.mk ?_;intro N hN))))
 exact iW (.inl rfl) (r1:=.bool (decide (t<=jq))) (r2:=.int .i64 0) (sd @Nat.zero_add) (sd @Nat.zero_add) (by
  rw[hf,mL (s:=s) (l:=l) (t:=t) (p:=t<=jq) ((QS t).trans (Dz.trans ⟨fun h=>⟨by unfold iC at ud;omega,h⟩,fun h=>h.2⟩))]
  simp only[dt,aS,bd,eM,dr,Option.map_some])
theorem sU (t:Int):aj Tryz.prog 123 [.int .i64 t] (.bool (jb t 1 16)):=by
 refine aj.body eH rfl fun hl n0=>?_
 clear hl
 have h:=lT t 1 16
 (repeat(first|((repeat(revert hN;revert N;apply Pn.out));refine wk @Nat.zero_add ?_;(repeat(refine Pn.mk ?_;intro N hN)))|((try apply Or.inl);refine⟨_,aj.x (h) (sd @Nat.zero_add),?_⟩;refine hN _ _ ?_;clear hN N)))
 exact aM (b:=jb t 1 16) (.inl rfl) (sd @Nat.zero_add) rfl
structure AP (s:ax):Prop where
 set:iA s.aJ
 nr:gL s.aJ s.aU.ai
 some:1<=s.aU.ai.length
 Hj:jb s.aB 1 16=true
 holds:pg s.aU.ai.length (cY s.aJ s.aU.ai) s.aB
noncomputable def lj (s:ax):Bool:=@decide (AP s) (Classical.propDecidable _)
theorem kg {s:ax}:lj s=true↔AP s:=by simp[lj]
theorem j4 {s:ax} (h:¬AP s):false=lj s:=by simp[lj,h]
theorem Co {s:ax} (h:AP s):true=lj s:=by simp[lj,h]
theorem pK {s:ay} {l:List ab} {t:Int}:nJ s l t=true↔pg l.length (cY s l) t:=by simp[nJ]
theorem LQ (s:ax) (hn:gz s.aJ) (hg:s.aJ.aE.length<=1048576) (ht:s.aJ.ai.length<=1048576):aj Tryz.prog 94 [.cR (ar s)] (.bool (lj s)):=by
 refine aj.body eH rfl fun hl n0=>?_
 clear hl
 have h1:=(LP s.aJ hn hg ht).cut mixed (.ptr _ [.sl (s.aU.ai.map aa),.int .i64 s.aB] .nil)
 by_cases hS:iA s.aJ
 ·rw[mK.2 hS]at h1
  have h2:=(zN s.aJ s.aU.ai).cut mixed (.ptr _ [.sl (s.aU.ai.map aa),.int .i64 s.aB] (.ptr _ [.int .i64 s.aB] .nil))
  by_cases hA:gL s.aJ s.aU.ai
  ·rw[fZ.2 hA]at h2
   by_cases h0:(s.aU.ai.length:Int)=0
   ·have hd:decide ((s.aU.ai.length:Int)=0)=true:=decide_eq_true h0
    have jH:false=lj s:=j4 fun h=>by have:=h.some;omega
    generalize gh:(s.aU.ai.map aa).length=len at *
    (repeat(first|((repeat(revert hN;revert N;apply Pn.out));refine wk (tw @ar.eq_1 (tw @ad.eq_1 @hd)) ?_;(repeat(refine Pn.mk ?_;intro N hN)))|((try apply Or.inl);refine⟨_,aj.x (h1) (sd (tw @ar.eq_1 (tw @ad.eq_1 @hd))),?_⟩;refine hN _ _ ?_;clear hN N)|((try apply Or.inl);refine⟨_,aj.x (h2) (sd (tw @ar.eq_1 (tw @ad.eq_1 @hd))),?_⟩;refine hN _ _ ?_;clear hN N)))
    exact aM (b:=false) (.inl rfl) (sd @Nat.zero_add) jH
   ·have hd:decide ((s.aU.ai.length:Int)=0)=false:=decide_eq_false h0
    have h3:=sU s.aB
    cases hT:jb s.aB 1 16
    ·rw[hT]at h3
     (repeat(first|((repeat(revert hN;revert N;apply Pn.out));refine wk (tw @ar.eq_1 (tw @ad.eq_1 @hd)) ?_;(repeat(refine Pn.mk ?_;intro N hN)))|((try apply Or.inl);refine⟨_,aj.x (h1) (sd (tw @ar.eq_1 (tw @ad.eq_1 @hd))),?_⟩;refine hN _ _ ?_;clear hN N)|((try apply Or.inl);refine⟨_,aj.x (h2) (sd (tw @ar.eq_1 (tw @ad.eq_1 @hd))),?_⟩;refine hN _ _ ?_;clear hN N)|((try apply Or.inl);refine⟨_,aj.x (h3) (sd (tw @ar.eq_1 (tw @ad.eq_1 @hd))),?_⟩;refine hN _ _ ?_;clear hN N)))
     exact aM (b:=false) (.inl rfl) (sd @Nat.zero_add) (j4 fun h=>by have:=h.Hj;rw[hT]at this;cases this)
    ·rw[hT]at h3
     have h4:=(BW s.aJ s.aU.ai s.aB hS hA).cut mixed (.ptr _ [.sl (s.aU.ai.map aa),.int .i64 s.aB] (.ptr _ [.int .i64 s.aB] (.same _ .nil)))
     cases hB:nJ s.aJ s.aU.ai s.aB
     ·rw[hB]at h4
      (repeat(first|((repeat(revert hN;revert N;apply Pn.out));refine wk (tw @ar.eq_1 (tw @ad.eq_1 @hd)) ?_;(repeat(refine Pn.mk ?_;intro N hN)))|((try apply Or.inl);refine⟨_,aj.x (h1) (sd (tw @ar.eq_1 (tw @ad.eq_1 @hd))),?_⟩;refine hN _ _ ?_;clear hN N)|((try apply Or.inl);refine⟨_,aj.x (h2) (sd (tw @ar.eq_1 (tw @ad.eq_1 @hd))),?_⟩;refine hN _ _ ?_;clear hN N)|((try apply Or.inl);refine⟨_,aj.x (h3) (sd (tw @ar.eq_1 (tw @ad.eq_1 @hd))),?_⟩;refine hN _ _ ?_;clear hN N)|((try apply Or.inl);refine⟨_,aj.x (h4) (sd (tw @ar.eq_1 (tw @ad.eq_1 @hd))),?_⟩;refine hN _ _ ?_;clear hN N)))
      exact aM (b:=false) (.inl rfl) (sd @Nat.zero_add) (j4 fun h=>by have:=pK.2 h.holds;rw[hB]at this;cases this)
     ·have hP:=pK.1 hB
      have hf:sF s.aJ s.aU.ai s.aB=0:=by
       have:=hP.1
       rw[sF,if_neg (by unfold iC;omega)]
      rw[hB,hf]at h4
      (repeat(first|((repeat(revert hN;revert N;apply Pn.out));refine wk (tw @ar.eq_1 (tw @ad.eq_1 @hd)) ?_;(repeat(refine Pn.mk ?_;intro N hN)))|((try apply Or.inl);refine⟨_,aj.x (h1) (sd (tw @ar.eq_1 (tw @ad.eq_1 @hd))),?_⟩;refine hN _ _ ?_;clear hN N)|((try apply Or.inl);refine⟨_,aj.x (h2) (sd (tw @ar.eq_1 (tw @ad.eq_1 @hd))),?_⟩;refine hN _ _ ?_;clear hN N)|((try apply Or.inl);refine⟨_,aj.x (h3) (sd (tw @ar.eq_1 (tw @ad.eq_1 @hd))),?_⟩;refine hN _ _ ?_;clear hN N)|((try apply Or.inl);refine⟨_,aj.x (h4) (sd (tw @ar.eq_1 (tw @ad.eq_1 @hd))),?_⟩;refine hN _ _ ?_;clear hN N)))
      exact aM (b:=true) (.inl rfl) (sd @Nat.zero_add) (Co ⟨hS,hA,by omega,hT,hP⟩)
  ·have hb:kD s.aJ s.aU.ai=false:=Bool.eq_false_iff.2 fun h=>hA (fZ.1 h)
   rw[hb]at h2
   (repeat(first|((repeat(revert hN;revert N;apply Pn.out));refine wk (tw @ar.eq_1 @ad.eq_1) ?_;(repeat(refine Pn.mk ?_;intro N hN)))|((try apply Or.inl);refine⟨_,aj.x (h1) (sd (tw @ar.eq_1 @ad.eq_1)),?_⟩;refine hN _ _ ?_;clear hN N)|((try apply Or.inl);refine⟨_,aj.x (h2) (sd (tw @ar.eq_1 @ad.eq_1)),?_⟩;refine hN _ _ ?_;clear hN N)))
   exact aM (b:=false) (.inl rfl) (sd @Nat.zero_add) (j4 fun h=>hA h.nr)
 ·have hb:qO s.aJ=false:=Bool.eq_false_iff.2 fun h=>hS (mK.1 h)
  rw[hb]at h1
  (repeat(first|((repeat(revert hN;revert N;apply Pn.out));refine wk (tw @ar.eq_1 @ad.eq_1) ?_;(repeat(refine Pn.mk ?_;intro N hN)))|((try apply Or.inl);refine⟨_,aj.x (h1) (sd (tw @ar.eq_1 @ad.eq_1)),?_⟩;refine hN _ _ ?_;clear hN N)))
  exact aM (b:=false) (.inl rfl) (sd @Nat.zero_add) (j4 fun h=>hS h.set)
theorem Mm {s:ay} (hS:iA s) (a d:Int):0<=td s (dw (dx s a) d):=by
 have hF:=hS.form
 have fc:dw (dx s a) d=0∨(0<=dw (dx s a) d/\dw (dx s a) d<=s.aE.length):=by
  unfold dw dx
  rw[List.getD_eq_getElem?_getD,List.getD_eq_getElem?_getD]
  rcases ht:s.ai[a.toNat]? with _|t
  ·exact .inl (by simp[zY])
  ·have Rq:=List.mem_of_getElem? ht
   simp only[Option.getD_some]
   rcases hg:t.cu[d.toNat]? with _|g
   ·exact .inl rfl
   ·exact .inr (hF.vL t Rq g (List.mem_of_getElem? hg))
 unfold td
 by_cases h0:dw (dx s a) d=0
 ·rw[if_pos h0];omega
 ·rw[if_neg h0]
  have hk:(dw (dx s a) d-1).toNat<s.aE.length:=by omega
  have:=ek (hS.Sm _ hk).2.1
  unfold pT at this
  unfold qu
  omega
theorem uZ {s:ay} (hS:iA s) (a d b:Int):0<=gZ s a d b/\gZ s a d b<=4:=by
 refine⟨?_,A7 hS a d b⟩
 unfold gZ
 split
 ·exact Mm hS a d
 ·omega
def ej (s:ay) (f:au->Int) (p:au) (t:Int):Nat->Int
 |0=>0
 |d+1=>ej s f p t d+if 0<=f (dy p d)then gZ s t d (f (dy p d))else 0
def tr (s:ay) (f:au->Int) (p:au) (t:Int):Int:=ej s f p t 4
theorem lJ {s:ay} (hS:iA s) (f:au->Int) (p:au) (t:Int):∀d,0<=ej s f p t d/\ej s f p t d<=4*(d:Int)
 |0=>⟨Int.le_refl _,Int.le_refl _⟩
 |d+1=>by
  have:=lJ hS f p t d
  have hb:=uZ hS t d (f (dy p d))
  simp only[ej]
  split<;>omega
theorem AX {s:ay} {l:List ab} (hA:gL s l) {p:au} (h:0<=fK l p):eP s (fK l p)=true:=by
 unfold fK at h ⊢
 split at h
 ·rename_i h0
  rw[if_pos h0]
  exact hA.2 _ (fj (gj h0).1)
 ·omega
theorem zO (s:ay) (hS:iA s) (l:List ab) (hA:gL s l) (p:au) (hx:iB p.eT) (hy:iB p.eO) (t:Int) (ht:eP s t=true):aj Tryz.prog 242 [.cR (ad s),.cR [.sl (l.map aa)],.agg (ae p),.int .i64 t] (.int .i64 (tr s (fK l) p t)):=by
 refine aj.body eH rfl fun hl n0=>?_
 clear hl
 have hR:=hA.1.uh
 have CA:l.length<=1048576:=by have:=hA.1.lL;omega
 (try((repeat(revert hN;revert N;apply Pn.out));refine wk @ae.eq_1 ?_;(repeat(refine Pn.mk ?_;intro N hN))))
 refine aZ (fun n env st=>∃k:Nat,n=(4)-k/\k<=(4)/\env 10=.int .i64 (k:Int)/\env 9=.int .i64 (ej s (fK l) p t k)/\st.get ⟨242000000,n0⟩=some ⟨true,2,[ae p]⟩) (4) ⟨0,by omega,by omega,sl @ae.eq_1,sl @ae.eq_1,sl @ae.eq_1⟩ ?_
 rintro n_a env_a st_a ⟨k,rfl,ale,xP,a9,ag0⟩ ez
 have a0:=ez 0 (by kernel_rfl);have a1:=ez 1 (by kernel_rfl);have a3:=ez 3 (by kernel_rfl);have a6:=ez 6 (by kernel_rfl)
 simp only[go_sem, ↓reduceIte,Nat.reduceEqDiff,Nat.reduceAdd,Nat.reduceSub,Nat.reduceLeDiff,reduceCtorEq,ae]at a0 a1 a3 a6
 clear ez
 by_cases hk:(k:Int)<4
 ·have dd:∀{e:Env} {gg:Rows},(e 10=.int .i64 (IntKind.i64.wrap ((k:Int)+1)))->(e 9=.int .i64 (ej s (fK l) p t (k+1)))->(gg ⟨242000000,n0⟩=some ⟨true,2,[ae p]⟩)->∃m0,m0<(4)-k/\∃k:Nat,m0=(4)-k/\k<=(4)/\e 10=.int .i64 (k:Int)/\e 9=.int .i64 (ej s (fK l) p t k)/\gg ⟨242000000,n0⟩=some ⟨true,2,[ae p]⟩:=fun x1 x2 x3=>⟨_,by omega,k+1,rfl,by omega,(by rw[x1,az (by omega)]),x2,x3⟩
  have dK:=yD p k (kU (by omega)) hx hy
  have CC:=zM l (dy p k) hR CA
  have fc:=lJ hS (fK l) p t k
  by_cases h0:0<=fK l (dy p k)
  ·have xf:=yE s hS.form t k (fK l (dy p k)) ht (AX hA h0) (kU (by omega))
   have fV:=uZ hS t k (fK l (dy p k))
   have hw:IntKind.i64.wrap (ej s (fK l) p t k+gZ s t k (fK l (dy p k)))=ej s (fK l) p t (k+1):=by
    rw[bU (by omega),ej,if_pos h0]
   (repeat(first|((repeat(revert hN;revert N;apply Pn.out));refine wk (tw @xP (tw @a9 (tw @ag0 (tw @a0 (tw @a1 (tw @a3 (tw @a6 (tw @hk (tw @h0 @ae.eq_1))))))))) ?_;(repeat(refine Pn.mk ?_;intro N hN)))|((try apply Or.inl);refine⟨_,aj.x (dK) (sd (tw @xP (tw @a9 (tw @ag0 (tw @a0 (tw @a1 (tw @a3 (tw @a6 (tw @hk (tw @h0 @ae.eq_1)))))))))),?_⟩;refine hN _ _ ?_;clear hN N)|((try apply Or.inl);refine⟨_,aj.x (CC) (sd (tw @xP (tw @a9 (tw @ag0 (tw @a0 (tw @a1 (tw @a3 (tw @a6 (tw @hk (tw @h0 @ae.eq_1)))))))))),?_⟩;refine hN _ _ ?_;clear hN N)|((try apply Or.inl);refine⟨_,aj.x (xf) (sd (tw @xP (tw @a9 (tw @ag0 (tw @a0 (tw @a1 (tw @a3 (tw @a6 (tw @hk (tw @h0 @ae.eq_1)))))))))),?_⟩;refine hN _ _ ?_;clear hN N)))
   refine dd ?_ ?_ ?_
   all_goals simp only[go_sem, ↓reduceIte,Nat.reduceEqDiff,Nat.reduceAdd,Nat.reduceSub,Nat.reduceLeDiff,reduceCtorEq,xP,a9,ag0,a0,a1,a3,a6,hw,ae]
  ·have hw:ej s (fK l) p t (k+1)=ej s (fK l) p t k:=by rw[ej,if_neg h0,Int.add_zero]
   (repeat(first|((repeat(revert hN;revert N;apply Pn.out));refine wk (tw @xP (tw @a9 (tw @ag0 (tw @a0 (tw @a1 (tw @a3 (tw @a6 (tw @hk (tw @h0 @ae.eq_1))))))))) ?_;(repeat(refine Pn.mk ?_;intro N hN)))|((try apply Or.inl);refine⟨_,aj.x (dK) (sd (tw @xP (tw @a9 (tw @ag0 (tw @a0 (tw @a1 (tw @a3 (tw @a6 (tw @hk (tw @h0 @ae.eq_1)))))))))),?_⟩;refine hN _ _ ?_;clear hN N)|((try apply Or.inl);refine⟨_,aj.x (CC) (sd (tw @xP (tw @a9 (tw @ag0 (tw @a0 (tw @a1 (tw @a3 (tw @a6 (tw @hk (tw @h0 @ae.eq_1)))))))))),?_⟩;refine hN _ _ ?_;clear hN N)))
   refine dd ?_ ?_ ?_
   all_goals simp only[go_sem, ↓reduceIte,Nat.reduceEqDiff,Nat.reduceAdd,Nat.reduceSub,Nat.reduceLeDiff,reduceCtorEq,xP,a9,ag0,a0,a1,a3,a6,hw,ae]
 ·(try((repeat(revert hN;revert N;apply Pn.out));refine wk (tw @xP (tw @a9 (tw @ag0 (tw @a0 (tw @a1 (tw @a3 (tw @a6 @hk))))))) ?_;(repeat(refine Pn.mk ?_;intro N hN))))
  exact bQ (b:=ej s (fK l) p t k) (.inl rfl) (sd (tw @xP (tw @a9 (tw @ag0 (tw @a0 (tw @a1 (tw @a3 @a6))))))) (by rw[show k=4 by omega];rfl)
def eX (la lb:List ab):Bool:=la.all fun t=>decide (fK lb t.aC=t.aQ)
theorem lU (la lb:List ab) (hR:iM lb) (CA:lb.length<=1048576) (h81:la.length<=1048576):aj Tryz.prog 170 [.cR [.sl (la.map aa)],.cR [.sl (lb.map aa)]] (.bool (eX la lb)):=by
 refine aj.body eH rfl fun hl n0=>?_
 clear hl
 (try((repeat(revert hN;revert N;apply Pn.out));refine wk @Nat.zero_add ?_;(repeat(refine Pn.mk ?_;intro N hN))))
 refine aZ (fun n env st=>∃k:Nat,n=(la.length)-k/\k<=(la.length)/\env 5=.int .i64 (k:Int)/\(∀j:Nat,j<k->fK lb (aD la j).aC=(aD la j).aQ)) (la.length) ⟨0,by omega,by omega,sl @Nat.zero_add,fun _ h=>absurd h (Nat.not_lt_zero _)⟩ ?_
 rintro n_a env_a st_a ⟨k,rfl,ale,a5,mi⟩ ez
 have a0:=ez 0 (by kernel_rfl);have a1:=ez 1 (by kernel_rfl)
 simp only[go_sem, ↓reduceIte,Nat.reduceEqDiff,Nat.reduceAdd,Nat.reduceSub,Nat.reduceLeDiff,reduceCtorEq]at a0 a1
 clear ez
 by_cases hk:(k:Int)<(la.length:Int)
 ·have dd:∀{e:Env},(e 5=.int .i64 (IntKind.i64.wrap ((k:Int)+1)))->(fK lb (aD la k).aC=(aD la k).aQ)->∃m0,m0<(la.length)-k/\∃k:Nat,m0=(la.length)-k/\k<=(la.length)/\e 5=.int .i64 (k:Int)/\(∀j:Nat,j<k->fK lb (aD la j).aC=(aD la j).aQ):=fun x1 x2=>⟨_,by omega,k+1,rfl,by omega,(by rw[x1,az (by omega)]),(all_succ mi x2)⟩
  have fm:k<la.length:=by omega
  have eh:=fa fm
  have CC:=zM lb (aD la k).aC hR CA
  by_cases h0:fK lb (aD la k).aC=(aD la k).aQ
  ·have hd:decide (fK lb (aD la k).aC=(aD la k).aQ)=true:=decide_eq_true h0
   (repeat(first|((repeat(revert hN;revert N;apply Pn.out));refine wk (tw @a5 (tw @a0 (tw @a1 (tw @hk (tw @eh (tw @hd (tw @aa.eq_1 @ae.eq_1))))))) ?_;(repeat(refine Pn.mk ?_;intro N hN)))|((try apply Or.inl);refine⟨_,aj.x (CC) (sd (tw @a5 (tw @a0 (tw @a1 (tw @hk (tw @eh (tw @hd (tw @aa.eq_1 @ae.eq_1)))))))),?_⟩;refine hN _ _ ?_;clear hN N)))
   exact dd (sd (tw @a5 (tw @a0 @a1))) (h0)
  ·have hd:decide (fK lb (aD la k).aC=(aD la k).aQ)=false:=decide_eq_false h0
   (repeat(first|((repeat(revert hN;revert N;apply Pn.out));refine wk (tw @a5 (tw @a0 (tw @a1 (tw @hk (tw @eh (tw @hd (tw @aa.eq_1 @ae.eq_1))))))) ?_;(repeat(refine Pn.mk ?_;intro N hN)))|((try apply Or.inl);refine⟨_,aj.x (CC) (sd (tw @a5 (tw @a0 (tw @a1 (tw @hk (tw @eh (tw @hd (tw @aa.eq_1 @ae.eq_1)))))))),?_⟩;refine hN _ _ ?_;clear hN N)))
   exact aM (b:=false) (.inl rfl) (sd @Nat.zero_add) (List.all_eq_false.2 ⟨_,fj fm,by rw[hd];simp⟩).symm
 ·(try((repeat(revert hN;revert N;apply Pn.out));refine wk (tw @a5 (tw @a0 (tw @a1 @hk))) ?_;(repeat(refine Pn.mk ?_;intro N hN))))
  exact aM (b:=true) (.inl rfl) (sd @Nat.zero_add) (List.all_eq_true.2 fun t ht=>by
   obtain⟨j,hj,rfl⟩:=List.getElem_of_mem ht
   have:=mi j (by omega)
   rw[ei hj]at this
   exact decide_eq_true this).symm
theorem GH (s:ax) (hA:gL s.aJ s.aU.ai) (x:ab):aj Tryz.prog 174 [.cR (ar s),.agg (aa x)] (.bool (decide (fK s.aU.ai x.aC=x.aQ))):=by
 refine aj.body eH rfl fun hl n0=>?_
 clear hl
 have CC:=(zM s.aU.ai x.aC hA.1.uh (by have:=hA.1.lL;omega)).cut mixed (.ptr _ [.int .i64 s.aB] (.same _ .nil))
 (repeat(first|((repeat(revert hN;revert N;apply Pn.out));refine wk (tw @ar.eq_1 (tw @aa.eq_1 @ae.eq_1)) ?_;(repeat(refine Pn.mk ?_;intro N hN)))|((try apply Or.inl);refine⟨_,aj.x (CC) (sd (tw @ar.eq_1 (tw @aa.eq_1 @ae.eq_1))),?_⟩;refine hN _ _ ?_;clear hN N)))
 exact aM (b:=decide (fK s.aU.ai x.aC=x.aQ)) (.inl rfl) (sd @Nat.zero_add) rfl
noncomputable def xn (s:ax) (l:List ab):Bool:=lj s&&kD s.aJ l
theorem AU {s:ax} {l:List ab}:xn s l=true↔AP s/\gL s.aJ l:=by simp[xn,kg,fZ]
theorem Kg {s:ay} {k:Nat} (h:k<s.ai.length):eP s k=true:=by
 unfold eP;exact kU (by omega)
theorem HX {s:ay} {l:List ab} (hA:gL s l) (p:au):fK l p<0↔dm l p<0:=by
 constructor
 ·intro h
  rcases Int.lt_or_le (dm l p) 0 with h0|h0
  ·exact h0
  ·exfalso
   obtain⟨h1,_⟩:=gj h0
   have h2:=(ek (hA.2 _ (fj h1))).1
   rw[fK,if_pos h0]at h
   omega
 ·intro h
  rw[fK,if_neg (by omega)];omega
def kG (ps:List au) (i:Nat):au:=ps.getD i ⟨0,0⟩
theorem jT {ps:List au} {i:Nat} (h:i<ps.length):kG ps i=ps[i]:=by simp[kG,List.getD_eq_getElem?_getD,h]
theorem yR {ps:List au} {i:Nat} (h:i<ps.length):(ps.map ae)[i]? =some (ae (kG ps i)):=by simp[kG,List.getD_eq_getElem?_getD,h]
def uS (ps:List au):Prop:=ps.Pairwise fun a b=>iI a b=true
theorem uS.at_ {ps:List au} (h:uS ps) {i j:Nat} (zF:i<j) (hj:j<ps.length):iI (kG ps i) (kG ps j)=true:=by
 rw[jT hj,jT (by omega)]
 exact List.pairwise_iff_getElem.1 h i j (by omega) hj zF
end Go.Proofs.YtgoljkjaameagaaGreat.V

namespace Go.Proofs.YtgoljkjaameagaaGreat.V
open Go.RowKit Go.Shelf Go.Lib Go.Sort
instance:Inhabited au:=⟨⟨0,0⟩⟩
variable {P:Program} {w:World} {D:Nat->Prop} {ι:Names}
theorem JO {vs:Array Value} (h:fA P w D ι [] vs):vs= #[]:=Array.eq_empty_of_size_eq_zero h.1
theorem yT {a:AV} {r:List AV} {vs:Array Value} (h:fA P w D ι (a::r) vs):∃u us,vs=(u::us).toArray/\cW P w D ι a u/\fA P w D ι r us.toArray:=by
 obtain⟨h1,h2⟩:=h
 obtain⟨l⟩:=vs
 cases l with
 |nil=>simp at h1
 |cons u us=>
  obtain⟨u',hu,hr⟩:=h2 0 a rfl
  simp at hu;subst hu
  exact⟨u,us,rfl,hr,by simpa using h1,fun j b hj=>by
   obtain⟨v,hv,lP⟩:=h2 (j+1) b (by simpa using hj)
   exact⟨v,by simpa using hv,lP⟩⟩
end Go.Proofs.YtgoljkjaameagaaGreat.V

namespace Go.Proofs
open Go.Shelf
def Tryz.Em:Go.Shelf.Ren:=⟨fun|6=>185|15=>209|14=>250|28=>271|29=>272|20=>289|21=>290|22=>291|23=>292|24=>293|25=>294|26=>295|27=>296|46=>324|47=>307|48=>308|49=>325|50=>326|57=>336|n=>n,fun|22=>40|24=>171|25=>244|3=>3|39=>273|0=>0|53=>333|55=>335|4=>4|46=>327|45=>326|50=>223|5=>5|9=>9|66=>360|70=>364|76=>382|77=>383|n=>n,fun|n=>n⟩
theorem Tryz.J3:Go.Proofs.SlLaysF0.n6 Tryz.prog Tryz.Em:={
 mixed:=by kernel_rfl
 f6:=⟨Tryz.f185.name,by decide,Tryz.func185.trans (congrArg some (by kernel_rfl))⟩
 f14:=⟨Tryz.f250.name,by decide,Tryz.func250.trans (congrArg some (by kernel_rfl))⟩
 f15:=Tryz.func209.trans (congrArg some (by kernel_rfl))
 f20:=⟨Tryz.f289.name,by decide,Tryz.func289.trans (congrArg some (by kernel_rfl))⟩
 f21:=⟨Tryz.f290.name,by decide,Tryz.func290.trans (congrArg some (by kernel_rfl))⟩
 f22:=⟨Tryz.f291.name,by decide,Tryz.func291.trans (congrArg some (by kernel_rfl))⟩
 f23:=⟨Tryz.f292.name,by decide,Tryz.func292.trans (congrArg some (by kernel_rfl))⟩
 f24:=⟨Tryz.f293.name,by decide,Tryz.func293.trans (congrArg some (by kernel_rfl))⟩
 f25:=⟨Tryz.f294.name,by decide,Tryz.func294.trans (congrArg some (by kernel_rfl))⟩
 f26:=⟨Tryz.f295.name,by decide,Tryz.func295.trans (congrArg some (by kernel_rfl))⟩
 f27:=⟨Tryz.f296.name,by decide,Tryz.func296.trans (congrArg some (by kernel_rfl))⟩
 f28:=Tryz.func271.trans (congrArg some (by kernel_rfl))
 f29:=Tryz.func272.trans (congrArg some (by kernel_rfl))
 f46:=⟨Tryz.f324.name,by decide,Tryz.func324.trans (congrArg some (by kernel_rfl))⟩
 f47:=Tryz.func307.trans (congrArg some (by kernel_rfl))
 f48:=Tryz.func308.trans (congrArg some (by kernel_rfl))
 f49:=⟨Tryz.f325.name,by decide,Tryz.func325.trans (congrArg some (by kernel_rfl))⟩
 f50:=⟨Tryz.f326.name,by decide,Tryz.func326.trans (congrArg some (by kernel_rfl))⟩
 f57:=⟨Tryz.f336.name,by decide,Tryz.func336.trans (congrArg some (by kernel_rfl))⟩
 t0:=Tryz.underlying0
 a0:=Tryz.isAgg0
 z0:=Tryz.sizeOf0
 v0:=Tryz.zeroValue0
 t3:=Tryz.underlying3
 a3:=Tryz.isAgg3
 z3:=Tryz.sizeOf3
 v3:=Tryz.zeroValue3
 t4:=Tryz.underlying4
 a4:=Tryz.isAgg4
 z4:=Tryz.sizeOf4
 v4:=Tryz.zeroValue4
 t5:=Tryz.underlying5
 a5:=Tryz.isAgg5
 z5:=Tryz.sizeOf5
 v5:=Tryz.zeroValue5
 t9:=Tryz.underlying9
 a9:=Tryz.isAgg9
 z9:=Tryz.sizeOf9
 v9:=Tryz.zeroValue9
 t22:=Tryz.underlying40
 a22:=Tryz.isAgg40
 z22:=Tryz.sizeOf40
 v22:=Tryz.zeroValue40
 t25:=Tryz.underlying244
 a25:=Tryz.isAgg244
 z25:=Tryz.sizeOf244
 v25:=Tryz.zeroValue244
 t39:=Tryz.underlying273
 a39:=Tryz.isAgg273
 z39:=Tryz.sizeOf273
 v39:=Tryz.zeroValue273
 t45:=Tryz.underlying326
 a45:=Tryz.isAgg326
 z45:=Tryz.sizeOf326
 v45:=Tryz.zeroValue326
 t46:=Tryz.underlying327
 a46:=Tryz.isAgg327
 z46:=Tryz.sizeOf327
 v46:=Tryz.zeroValue327
 t50:=Tryz.underlying223
 a50:=Tryz.isAgg223
 z50:=Tryz.sizeOf223
 v50:=Tryz.zeroValue223
 t53:=Tryz.underlying333
 a53:=Tryz.isAgg333
 z53:=Tryz.sizeOf333
 v53:=Tryz.zeroValue333
 t55:=Tryz.underlying335
 a55:=Tryz.isAgg335
 z55:=Tryz.sizeOf335
 v55:=Tryz.zeroValue335
 t66:=Tryz.underlying360
 a66:=Tryz.isAgg360
 z66:=Tryz.sizeOf360
 v66:=Tryz.zeroValue360
 t70:=Tryz.underlying364
 a70:=Tryz.isAgg364
 z70:=Tryz.sizeOf364
 v70:=Tryz.zeroValue364
 t76:=Tryz.underlying382
 a76:=Tryz.isAgg382
 z76:=Tryz.sizeOf382
 v76:=Tryz.zeroValue382
 t77:=Tryz.underlying383
 a77:=Tryz.isAgg383
 z77:=Tryz.sizeOf383
 v77:=Tryz.zeroValue383}
end Go.Proofs

namespace Go.Proofs.YtgoljkjaameagaaGreat.V
open Go.RowKit Go.Shelf Go.Lib Go.Sort
theorem Be (w:World) (a b:Int):Calls Tryz.prog 210 #[.int .i64 a,.int .i64 b] w fun e w'=>e=.returned (.int .i64 (rn a b))/\w=w':=by
 go_enter Tryz.func210,Tryz.ntmps210
 go_wp2_with go_in
 all_goals
  go_ret
  exact⟨Fx (by unfold rn;split<;>(try split)<;>omega),rfl⟩
theorem L5 (w:World) (a b:Int) (g:Nat) (ha:w.cell? ⟨g,0,none⟩=some (.int .i64 a)) (hb:w.cell? ⟨g,1,none⟩=some (.int .i64 b)):Calls Tryz.prog 233 #[.slice (some ⟨g,0,none⟩) 2 2] w fun e w'=>e=.returned (.int .i64 (L6 a b))/\w=w':=by
 go_enter Tryz.func233,Tryz.ntmps233
 go_wp2_with fail
 go_loop [8] (fun i=>∃k:Nat,k<=2/\i=.int .i64 k/\Hid ((1<=k->a=0)/\(2<=k->b=0))) (fun i=>2-(intOf i).toNat)
 case atStart=>exact⟨0,by omega,rfl,Lib.hid ⟨fun h=>by omega,fun h=>by omega⟩⟩
 case round=>
  obtain⟨k,hk,rfl,hz⟩:=hrel
  have h3:k=0∨k=1∨k=2:=by omega
  rcases h3 with rfl|rfl|rfl
  ·go_wp2_with fail
   ·rename_i h
    go_ret
    exact⟨Fx (by unfold L6;simp_all),rfl⟩
   ·rename_i h
    go_round
    case rel=>exact⟨1,by omega,rfl,Lib.hid ⟨fun _=>by simpa using h,fun h=>by omega⟩⟩
    case measure=>simp[intOf]
  ·have h0:=hz.out.1 (by omega)
   replace h0:=Lib.hid h0
   go_wp2_with fail
   ·go_ret
    exact⟨Fx (by unfold L6;rw[if_pos h0.out]),rfl⟩
   ·rename_i h
    go_round
    case rel=>exact⟨2,by omega,rfl,Lib.hid ⟨fun _=>h0.out,fun _=>by simpa using h⟩⟩
    case measure=>simp[intOf]
  ·have h0:=Lib.hid (hz.out.1 (by omega))
   have h1:=Lib.hid (hz.out.2 (by omega))
   go_wp2_with fail
   go_ret
   exact⟨Fx (by unfold L6;rw[if_pos h0.out,h1.out]),rfl⟩
def Grown (w w':World):Prop:=∃(q:Nat) (os:Array Obj),w'=Go.Sort.grow (w.drewN q) os
theorem Grown.refl (w:World):Grown w w:=⟨0, #[],by rw[grow_empty];rfl⟩
theorem Grown.alloc {w w':World} (h:Grown w w') (o:Obj):Grown w (w'.alloc o):=by
 obtain⟨q,os,rfl⟩:=h
 exact⟨q,os++ #[o],by rw[alloc_eq_grow,grow_grow]⟩
theorem Grown.drew {w w':World} (h:Grown w w'):Grown w w'.drew:=by
 obtain⟨q,os,rfl⟩:=h
 exact⟨q+1,os,by rw[drew_grow];rfl⟩
theorem Grown.dN {w w':World} (h:Grown w w') (n:Nat):Grown w (w'.drewN n):=by
 obtain⟨q,os,rfl⟩:=h
 exact⟨q+n,os,by
  show Go.Sort.grow ((w.drewN q).drewN n) os=Go.Sort.grow (w.drewN (q+n)) os
  simp[World.drewN,Nat.add_assoc]⟩
theorem tZ (w:World) (a b:au):Calls Tryz.prog 154 #[.agg #[.int .i64 a.eT,.int .i64 a.eO],.agg #[.int .i64 b.eT,.int .i64 b.eO]] w fun e w'=>e=.returned (.int .i64 (pR a b))/\Grown w w':=by
 go_enter Tryz.func154,Tryz.ntmps154
 go_wp2_with fail
 go_region_held3 (fun w'=>w'.cell? ⟨w.heap.size,0,none⟩=some (.int .i64 a.eT)/\w'.cell? ⟨w.heap.size,1,none⟩=some (.int .i64 a.eO)/\
   w'.cell? ⟨w.heap.size+1,0,none⟩=some (.int .i64 b.eT)/\w'.cell? ⟨w.heap.size+1,1,none⟩=some (.int .i64 b.eO))
  (first|go_keep)
  (first|(go_at_call 210;refine(Be _ _ _).mono ?_;rintro e w' ⟨rfl,rfl⟩)|(go_at_call 233;refine(L5 _ (rn a.eO b.eO) (rn a.eT b.eT) _ (by simp[go_sem]) (by simp[go_sem])).mono ?_;rintro e w' ⟨rfl,rfl⟩))
 go_wp2_with fail
 go_ret
 refine⟨rfl,?_⟩
 repeat(first|(with_reducible exact Grown.refl _)|(refine Grown.alloc ?_ _)|(refine Grown.drew ?_)|(refine Grown.dN ?_ _))
end Go.Proofs.YtgoljkjaameagaaGreat.V

namespace Go.Proofs.YtgoljkjaameagaaGreat.V
open Go.RowKit
attribute [local irreducible] dE wpOps fS Call
attribute [local go_sem] aH fq eG fH fG cX upd bZ K.av cD AV.cells AV.cell rowOf rowsOf part ld rowAt br bP dn dR gK bx cQ eb fD eS di dW cN cL dH dI bD aW cF bB cH cG dU dX dV cE bG cP dS bz aI cJ cq gJ bj cz bE aT de aX dp AV.undef bq bt dL dQ dB dz cw ea ee cj dZ dY cI cK List.getD_cons_zero List.getD_cons_succ List.getD_nil List.all_cons List.all_nil Bool.and_true Bool.true_and Bool.and_self Bool.not_true Bool.not_false Option.map_some Option.map_none Option.bind_some Option.bind_none List.length_cons List.length_nil List.take_succ_cons List.take_zero List.take_nil List.drop_succ_cons List.drop_zero List.drop_nil List.head?_cons List.map_cons List.map_nil List.getElem?_cons_zero List.getElem?_cons_succ List.cons_append List.nil_append List.append_nil List.length_map List.set_cons_zero List.set_cons_succ Nat.reduceMul eq_self Int.toNat_natCast Int.natCast_nonneg and_self true_and and_true decide_true decide_false Bool.false_eq_true Nat.zero_add Nat.add_zero List.contains_cons List.contains_nil Bool.or_false Bool.false_or beq_self_eq_true Nat.reduceBEq ne_eq not_true_eq_false not_false_eq_true Id.mk.injEq false_and and_false Nat.reduceLT Int.reduceLE Int.reduceLT Int.reduceToNat Int.reduceNeg Int.reduceAdd Nat.le_refl List.length_append beq_true beq_false Bool.not_eq_eq_eq_not or_false false_or dD ah aq aF aY bp bK aP bc aN aV cC bF
abbrev mP:MK:=⟨true,[.tI,.tI]⟩
theorem B3 (p:au):∀(ts:List ab) (i:Nat),gm mP (ae p) (ts.map aa) i=some (if pW ts p<ts.length then some (i+pW ts p)else none)
 |[],i=>by simp[gm,pW]
 |t::ts,i=>by
  have e:eS mP.ts (ae p) ((aa t).take mP.ks)=some (decide (p=t.aC)):=by
   have h:(p=t.aC)↔(p.eT=t.aC.eT/\p.eO=t.aC.eO):=⟨fun h=>by rw[h];exact⟨rfl,rfl⟩,fun h=>D8 h.1 h.2⟩
   simp[MK.ks,ae,aa,eS,fD,h]
  have ih:=B3 p ts (i+1)
  rw[List.map_cons]
  unfold gm
  rw[e]
  by_cases h:p=t.aC
  ·rw[decide_eq_true h]
   have h0:pW (t::ts) p=0:=by simp[pW,List.findIdx_cons,h]
   simp[h0]
  ·rw[decide_eq_false h]
   have h0:pW (t::ts) p=pW ts p+1:=by
    simp[pW,List.findIdx_cons,Ne.symm h]
   simp only[ih,h0,List.length_cons,Nat.add_lt_add_iff_right]
   congr 1
   split<;>simp;omega
theorem yI (ts:List ab) (p:au):fR mP (.agg [.int .i64 p.eT,.int .i64 p.eO]) (ts.map aa)=some (if 0<=dm ts p then some (dm ts p).toNat else none):=by
 have h:=B3 p ts 0
 unfold fR
 rw[if_pos ⟨rfl,rfl,rfl⟩]
 show gm mP (ae p) _ 0= _
 rw[h]
 unfold dm
 split<;>simp
theorem GN {ts:List ab} {p:au} (h:0<=dm ts p):fR mP (.agg [.int .i64 p.eT,.int .i64 p.eO]) (ts.map aa)=some (some (dm ts p).toNat):=by rw[yI,if_pos h]
theorem qK {ts:List ab} {p:au} (h:dm ts p<0):fR mP (.agg [.int .i64 p.eT,.int .i64 p.eO]) (ts.map aa)=some none:=by rw[yI,if_neg (by omega)]
structure Cy (g:Rows) (n:Nat) (c T O:Id) (s:ax) (ts:List ab):Prop where
 row:∃b,g c=some ⟨b,6,[[.sl (s.aJ.aE.map cU),.sl (s.aJ.ai.map bI),.sl (s.aU.ai.map aa),.int .i64 s.aB,.map T mP,.map O mP]]⟩
 tl:∃b,g T=some ⟨b,mP.pE,ts.map aa⟩
 cv:c.bY<n
 tv:T.bY<n
 ov:O.bY<n
theorem Cy.ro {g:Rows} {n:Nat} {c T O:Id} {s:ax} {ts:List ab} (h:Cy g n c T O s ts):Cy (V.ro g) n c T O s ts:=by
 obtain⟨b,h1⟩:=h.row
 obtain⟨b2,h2⟩:=h.tl
 exact⟨⟨false,by simp[V.ro,h1]⟩,⟨false,by simp[V.ro,h2]⟩,h.cv,h.tv,h.ov⟩
theorem Cy.frame {g g':Rows} {n n':Nat} {c T O:Id} {s:ax} {ts:List ab} (h:Cy g n c T O s ts) (hn:n<=n') (hc:g' c=g c) (hT:g' T=g T):Cy g' n' c T O s ts:=
 ⟨by rw[hc];exact h.row,by rw[hT];exact h.tl,Nat.lt_of_lt_of_le h.cv hn,Nat.lt_of_lt_of_le h.tv hn,Nat.lt_of_lt_of_le h.ov hn⟩
theorem Tq {σ:aw} {c T O:Id} {s:ax} {ts:List ab} (h:Cy σ.get σ.next c T O s ts) (p:au):Call Tryz.prog 281 [.ptr c 0 0,.agg (ae p)] σ (fun r _=>r=.int .i64 (fK ts p)):=by
 refine gY eH rfl fun j8=>?_
 clear j8
 obtain⟨b,h1⟩:=h.row
 obtain⟨b2,h2⟩:=h.tl
 have v1:=dP h.cv
 have v2:=dP h.tv
 by_cases h0:0<=dm ts p
 ·have hm:=GN h0
  have hg:=fa (gj h0).1
  have ho:(some (dm ts p).toNat).isSome=true:=rfl
  (try((repeat(revert hN;revert N;apply Pn.out));refine wk (tw @h1 (tw @h2 (tw @v1 (tw @v2 (tw @hm (tw @hg (tw @ho (tw @ae.eq_1 @aa.eq_1)))))))) ?_;(repeat(refine Pn.mk ?_;intro N hN))))
  exact gV (.inl rfl) (vs:=[.int .i64 (aD ts (dm ts p).toNat).aQ]) (sd @Nat.zero_add) (by rw[fK,if_pos h0];rfl)
 ·have hm:=qK (ts:=ts) (p:=p) (by omega)
  have ho:(none:Option Nat).isSome=false:=rfl
  (try((repeat(revert hN;revert N;apply Pn.out));refine wk (tw @h1 (tw @h2 (tw @v1 (tw @v2 (tw @hm (tw @ho @ae.eq_1)))))) ?_;(repeat(refine Pn.mk ?_;intro N hN))))
  exact gV (.inl rfl) (vs:=[.int .i64 (-1)]) (sd @Nat.zero_add) (by rw[fK,if_neg h0];rfl)
theorem NF {σ:aw} {c T O:Id} {s:ax} {ts:List ab} (h:Cy σ.get σ.next c T O s ts) (p:au):fS (Call Tryz.prog) 281 [.ptr c 0 0,.agg (ae p)] σ (fun r=>r=.int .i64 (fK ts p)):=by
 unfold fS PC
 exact Or.inl (bf _ _ _ _ _ (fun r σ' hr=>⟨_,by rw[hr];exact aF _ _ _ _,rfl⟩) (Tq (σ:=⟨V.ro σ.get,σ.next⟩) h.ro p))
theorem FT {σ:aw} (s:ay) (hS:iA s) (F:au->Int) (hF:∀q,0<=F q->eP s (F q)=true) (p:au) (hx:iB p.eT) (hy:iB p.eO) (t:Int) (ht:eP s t=true) (f:Nat) (first:List AV)
  (CC:∀σ':aw,σ.next<=σ'.next->(∀x:Id,x.bY<σ.next->σ'.get x=σ.get x)->∀q,fS (Call Tryz.prog) f (first++[.agg (ae q)]) σ' (fun r=>r=.int .i64 (F q))):
  Call Tryz.prog 249 [.agg (ad s),.agg (ae p),.int .i64 t,.tN f first] σ (fun r _=>r=.int .i64 (tr s F p t)):=by
 refine gY eH rfl fun j8=>?_
 clear j8
 (try((repeat(revert hN;revert N;apply Pn.out));refine wk (tw @ae.eq_1 @ad.eq_1) ?_;(repeat(refine Pn.mk ?_;intro N hN))))
 refine aZ (fun n env st=>∃k:Nat,n=(4)-k/\k<=(4)/\env 12=.int .i64 (k:Int)/\env 9=.int .i64 (ej s F p t k)/\st.get ⟨249000000,σ.next⟩=some ⟨true,2,[ad s]⟩/\st.get ⟨249000001,σ.next⟩=some ⟨true,2,[ae p]⟩/\(σ.next<st.next/\∀x:Id,x.bY<σ.next->st.get x=σ.get x)) (4) ⟨0,by omega,by omega,sl (tw @ae.eq_1 @ad.eq_1),sl (tw @ae.eq_1 @ad.eq_1),sl (tw @ae.eq_1 @ad.eq_1),sl (tw @ae.eq_1 @ad.eq_1),⟨by(try dsimp only);omega,fun x hx=>by
  have:=dP hx
  simp only[go_sem, ↓reduceIte,Nat.reduceEqDiff,Nat.reduceAdd,Nat.reduceSub,Nat.reduceLeDiff,reduceCtorEq,this]⟩⟩ ?_
 rintro n_a env_a st_a ⟨k,rfl,ale,a12,a9,ag0,ag1,qQ⟩ ez
 have a2:=ez 2 (by kernel_rfl);have a3:=ez 3 (by kernel_rfl);have a4:=ez 4 (by kernel_rfl);have a5:=ez 5 (by kernel_rfl)
 simp only[go_sem, ↓reduceIte,Nat.reduceEqDiff,Nat.reduceAdd,Nat.reduceSub,Nat.reduceLeDiff,reduceCtorEq,ae,ad]at a2 a3 a4 a5
 clear ez
 obtain⟨an,ez⟩:=qQ
 by_cases hk:(k:Int)<4
 ·have dd:∀{e:Env} {gg:Rows} {nx:Nat},(e 12=.int .i64 (IntKind.i64.wrap ((k:Int)+1)))->(e 9=.int .i64 (ej s F p t (k+1)))->(gg ⟨249000000,σ.next⟩=some ⟨true,2,[ad s]⟩)->(gg ⟨249000001,σ.next⟩=some ⟨true,2,[ae p]⟩)->(σ.next<nx/\∀x:Id,x.bY<σ.next->gg x=σ.get x)->∃m0,m0<(4)-k/\∃k:Nat,m0=(4)-k/\k<=(4)/\e 12=.int .i64 (k:Int)/\e 9=.int .i64 (ej s F p t k)/\gg ⟨249000000,σ.next⟩=some ⟨true,2,[ad s]⟩/\gg ⟨249000001,σ.next⟩=some ⟨true,2,[ae p]⟩/\(σ.next<nx/\∀x:Id,x.bY<σ.next->gg x=σ.get x):=fun x1 x2 x3 x4 x5=>⟨_,by omega,k+1,rfl,by omega,(by rw[x1,az (by omega)]),x2,x3,x4,x5⟩
  have dK:=Er p k (kU (by omega)) hx hy
  have fc:=lJ hS F p t k
  (repeat(first|((repeat(revert hN;revert N;apply Pn.out));refine wk (tw @a12 (tw @a9 (tw @ag0 (tw @ag1 (tw @a2 (tw @a3 (tw @a4 (tw @a5 (tw @hk @ae.eq_1))))))))) ?_;(repeat(refine Pn.mk ?_;intro N hN)))|((try apply Or.inl);refine⟨_,aj.x (dK) (sd (tw @a12 (tw @a9 (tw @ag0 (tw @ag1 (tw @a2 (tw @a3 (tw @a4 (tw @a5 (tw @hk @ae.eq_1)))))))))),?_⟩;refine hN _ _ ?_;clear hN N)))
  refine .inl ⟨_,CC _ (by(try dsimp only);omega) (fun x hx=>sd (ez x hx)) (dy p k),?_⟩
  refine hN _ _ ?_
  clear hN N
  by_cases h0:0<=F (dy p k)
  ·have xf:=H9 s hS.form t k (F (dy p k)) ht (hF _ h0) (kU (by omega))
   have fV:=uZ hS t k (F (dy p k))
   have hw:IntKind.i64.wrap (ej s F p t k+gZ s t k (F (dy p k)))=ej s F p t (k+1):=by
    rw[bU (by omega),ej,if_pos h0]
   rw[ad]at xf
   (repeat(first|((repeat(revert hN;revert N;apply Pn.out));refine wk (tw @a12 (tw @a9 (tw @ag0 (tw @ag1 (tw @a2 (tw @a3 (tw @a4 (tw @a5 (tw @h0 @ad.eq_1))))))))) ?_;(repeat(refine Pn.mk ?_;intro N hN)))|((try apply Or.inl);refine⟨_,aj.x (xf) (sd (tw @a12 (tw @a9 (tw @ag0 (tw @ag1 (tw @a2 (tw @a3 (tw @a4 (tw @a5 (tw @h0 @ad.eq_1)))))))))),?_⟩;refine hN _ _ ?_;clear hN N)))
   refine dd ?_ ?_ ?_ ?_ (⟨by(try dsimp only);omega,fun x hx=>by
    have h1:=ez x hx
    simp only[go_sem, ↓reduceIte,Nat.reduceEqDiff,Nat.reduceAdd,Nat.reduceSub,Nat.reduceLeDiff,reduceCtorEq,h1]⟩)
   all_goals simp only[go_sem, ↓reduceIte,Nat.reduceEqDiff,Nat.reduceAdd,Nat.reduceSub,Nat.reduceLeDiff,reduceCtorEq,a12,a9,ag0,ag1,a2,a3,a4,a5,hw,ae,ad]
  ·have hw:ej s F p t (k+1)=ej s F p t k:=by rw[ej,if_neg h0,Int.add_zero]
   (try((repeat(revert hN;revert N;apply Pn.out));refine wk (tw @a12 (tw @a9 (tw @ag0 (tw @ag1 (tw @a2 (tw @a3 (tw @a4 (tw @a5 @h0)))))))) ?_;(repeat(refine Pn.mk ?_;intro N hN))))
   refine dd ?_ ?_ ?_ ?_ (⟨by(try dsimp only);omega,fun x hx=>by
    have h1:=ez x hx
    simp only[go_sem, ↓reduceIte,Nat.reduceEqDiff,Nat.reduceAdd,Nat.reduceSub,Nat.reduceLeDiff,reduceCtorEq,h1]⟩)
   all_goals simp only[go_sem, ↓reduceIte,Nat.reduceEqDiff,Nat.reduceAdd,Nat.reduceSub,Nat.reduceLeDiff,reduceCtorEq,a12,a9,ag0,ag1,a2,a3,a4,a5,hw,ae,ad]
 ·(try((repeat(revert hN;revert N;apply Pn.out));refine wk (tw @a12 (tw @a9 (tw @ag0 (tw @ag1 (tw @a2 (tw @a3 (tw @a4 (tw @a5 @hk)))))))) ?_;(repeat(refine Pn.mk ?_;intro N hN))))
  exact gV (.inl rfl) (vs:=[.int .i64 (ej s F p t k)]) (sd (tw @a12 (tw @a9 (tw @ag0 (tw @ag1 (tw @a2 (tw @a3 (tw @a4 @a5)))))))) (by rw[show k=4 by omega];rfl)
noncomputable def jF (s:ax) (ts:List ab) (p:au) (t:Int):Bool:=Cb p&&decide (fK ts p<0)&&decide (s.aB<=tr s.aJ (fK ts) p t)
theorem FU {σ:aw} {c T O:Id} {s:ax} {ts:List ab} (h:Cy σ.get σ.next c T O s ts) (hS:iA s.aJ) (hF:∀q,0<=fK ts q->eP s.aJ (fK ts q)=true) (p:au) (hx:iB p.eT) (hy:iB p.eO) (t:Int) (ht:eP s.aJ t=true):
  fS (Call Tryz.prog) 249 [.agg (ad s.aJ),.agg (ae p),.int .i64 t,.tN 281 [.ptr c 0 0]] σ (fun r=>r=.int .i64 (tr s.aJ (fK ts) p t)):=by
 unfold fS PC
 exact Or.inl (bf _ _ _ _ _ (fun r σ' hr=>⟨_,by rw[hr];exact aF _ _ _ _,rfl⟩) (FT (σ:=⟨V.ro σ.get,σ.next⟩) s.aJ hS (fK ts) hF p hx hy t ht _ _
  (fun σ' hn hk q=>NF (h.ro.frame hn (hk _ h.cv) (hk _ h.tv)) q)))
theorem NU {σ:aw} {c T O:Id} {s:ax} {ts:List ab} (h:Cy σ.get σ.next c T O s ts) (hS:iA s.aJ) (hF:∀q,0<=fK ts q->eP s.aJ (fK ts q)=true) (p:au) (t:Int) (ht:eP s.aJ t=true):
  Call Tryz.prog 229 [.ptr c 0 0,.agg (ae p),.int .i64 t] σ (fun r _=>r=.bool (jF s ts p t)):=by
 refine gY eH rfl fun j8=>?_
 clear j8
 obtain⟨b,h1⟩:=h.row
 have v1:=dP h.cv
 have hw:=qZ p
 have v2:=dP h.tv
 by_cases h0:Cb p=true
 ·rw[h0]at hw
  obtain⟨hx,hy⟩:=s6 h0
  by_cases h2:fK ts p<0
  ·(repeat(first|((repeat(revert hN;revert N;apply Pn.out));refine wk (tw @h1 (tw @v1 (tw @h2 @ae.eq_1))) ?_;(repeat(refine Pn.mk ?_;intro N hN)))|((try apply Or.inl);refine⟨_,aj.x (hw) (sd (tw @h1 (tw @v1 (tw @h2 @ae.eq_1)))),?_⟩;refine hN _ _ ?_;clear hN N)))
   refine⟨_,NF (h.frame (by(try dsimp only);omega) (sd @v1) (sd @v2)) p,?_⟩
   refine hN _ _ ?_
   clear hN N
   (repeat(first|((repeat(revert hN;revert N;apply Pn.out));refine wk (tw @h1 (tw @v1 (tw @h2 (tw @ae.eq_1 @ad.eq_1)))) ?_;(repeat(refine Pn.mk ?_;intro N hN)))|((try apply Or.inl);refine⟨_,aj.x (hw) (sd (tw @h1 (tw @v1 (tw @h2 (tw @ae.eq_1 @ad.eq_1))))),?_⟩;refine hN _ _ ?_;clear hN N)))
   refine⟨_,FU (h.frame (by(try dsimp only);omega) (sd @v1) (sd @v2)) hS hF p hx hy t ht,?_⟩
   refine hN _ _ ?_
   clear hN N
   have hb:=lJ hS (fK ts) p t 4
   (repeat(first|((repeat(revert hN;revert N;apply Pn.out));refine wk (tw @h1 (tw @v1 (tw @h2 (tw @ae.eq_1 @ad.eq_1)))) ?_;(repeat(refine Pn.mk ?_;intro N hN)))|((try apply Or.inl);refine⟨_,aj.x (hw) (sd (tw @h1 (tw @v1 (tw @h2 (tw @ae.eq_1 @ad.eq_1))))),?_⟩;refine hN _ _ ?_;clear hN N)))
   exact gV (.inl rfl) (vs:=[.bool (decide (s.aB<=tr s.aJ (fK ts) p t))]) (sd @Nat.zero_add) (by rw[show jF s ts p t=decide (s.aB<=tr s.aJ (fK ts) p t) by simp[jF,h0,h2]];rfl)
  ·(repeat(first|((repeat(revert hN;revert N;apply Pn.out));refine wk (tw @h1 (tw @v1 (tw @h2 @ae.eq_1))) ?_;(repeat(refine Pn.mk ?_;intro N hN)))|((try apply Or.inl);refine⟨_,aj.x (hw) (sd (tw @h1 (tw @v1 (tw @h2 @ae.eq_1)))),?_⟩;refine hN _ _ ?_;clear hN N)))
   refine⟨_,NF (h.frame (by(try dsimp only);omega) (sd @v1) (sd @v2)) p,?_⟩
   refine hN _ _ ?_
   clear hN N
   (repeat(first|((repeat(revert hN;revert N;apply Pn.out));refine wk (tw @h1 (tw @v1 (tw @h2 @ae.eq_1))) ?_;(repeat(refine Pn.mk ?_;intro N hN)))|((try apply Or.inl);refine⟨_,aj.x (hw) (sd (tw @h1 (tw @v1 (tw @h2 @ae.eq_1)))),?_⟩;refine hN _ _ ?_;clear hN N)))
   exact gV (.inl rfl) (vs:=[.bool false]) (sd @Nat.zero_add) (by rw[show jF s ts p t=false by simp[jF,h2]];rfl)
 ·rw[Bool.not_eq_true]at h0
  rw[h0]at hw
  (repeat(first|((repeat(revert hN;revert N;apply Pn.out));refine wk (tw @h1 (tw @v1 @ae.eq_1)) ?_;(repeat(refine Pn.mk ?_;intro N hN)))|((try apply Or.inl);refine⟨_,aj.x (hw) (sd (tw @h1 (tw @v1 @ae.eq_1))),?_⟩;refine hN _ _ ?_;clear hN N)))
  exact gV (.inl rfl) (vs:=[.bool false]) (sd @Nat.zero_add) (by rw[show jF s ts p t=false by simp[jF,h0]];rfl)
def OW (rows:List (List AV)):Prop:=∀r∈rows,∃(x y:Int) (v:AV),r=[.int .i64 x,.int .i64 y,v]
theorem Fv (x y:Int):∀(rows:List (List AV)) (i:Nat),OW rows->∃fi,gm mP [.int .i64 x,.int .i64 y] rows i=some fi
 |[],i,_=>⟨none,by simp[gm]⟩
 |r::rs,i,h=>by
  obtain⟨fi,hf⟩:=Fv x y rs (i+1) fun r hr=>h r (by simp[hr])
  obtain⟨x',y',v,rfl⟩:=h r (by simp)
  unfold gm
  have e:eS mP.ts [.int .i64 x,.int .i64 y] (([.int .i64 x',.int .i64 y',v]:List AV).take mP.ks)=some (decide (x=x')&&decide (y=y')):=by
   simp[MK.ks,eS,fD]
  rw[e]
  cases decide (x=x')&&decide (y=y')
  ·exact⟨fi,hf⟩
  ·exact⟨some i,rfl⟩
theorem Ca {rows:List (List AV)} (h:OW rows) (x y:Int):∃fi,fR mP (.agg [.int .i64 x,.int .i64 y]) rows=some fi:=by
 unfold fR
 rw[if_pos ⟨rfl,rfl,rfl⟩]
 exact Fv x y rows 0 h
theorem O1 {rows:List (List AV)} (h:OW rows) (x y:Int) (v:AV) (fi:Option Nat):OW (dB rows [.int .i64 x,.int .i64 y,v] fi):=by
 intro r hr
 cases fi with
 |none=>
  rcases List.mem_append.1 (show r∈rows++[_]from hr)with h1|h1
  ·exact h r h1
  ·simp at h1;exact⟨x,y,v,h1⟩
 |some i=>
  rcases List.mem_or_eq_of_mem_set (show r∈rows.set i _ from hr)with h1|h1
  ·exact h r h1
  ·exact⟨x,y,v,h1⟩
theorem JI {rows:List (List AV)} (h:OW rows) (fi:Option Nat):OW (dz rows fi):=by
 intro r hr
 cases fi with
 |none=>exact h r (by simpa[dz]using hr)
 |some i=>exact h r (List.mem_of_mem_eraseIdx (by simpa[dz]using hr))
def iQ (σ:aw) (O:Id) (g:Rows) (n:Nat):Prop:=σ.next<=n/\(∀x:Id,x.bY<σ.next->x≠O->g x=σ.get x)/\∃rows,g O=some ⟨true,mP.pE,rows⟩/\OW rows
theorem iQ.xe {σ:aw} {g:Rows} {n:Nat} {c T O:Id} {s:ax} {ts:List ab} (h:Cy σ.get σ.next c T O s ts) (hc:c≠O) (hT:T≠O) (k:iQ σ O g n):Cy g n c T O s ts:=
 h.frame k.1 (k.2.1 _ h.cv hc) (k.2.1 _ h.tv hT)
theorem iQ.trans {a b:aw} {O:Id} {g:Rows} {n:Nat} (h:iQ a O b.get b.next) (k:iQ b O g n):iQ a O g n:=
 ⟨Nat.le_trans h.1 k.1,fun x hx hO=>(k.2.1 x (Nat.lt_of_lt_of_le hx h.1) hO).trans (h.2.1 x hx hO),k.2.2⟩
theorem iQ.frame {a:aw} {O:Id} {g g':Rows} {n n' m:Nat} (h:iQ a O g n) (ha:a.next<=m) (ho:O.bY<m) (hn:n<=n') (hf:∀x:Id,x.bY<m->g' x=g x):iQ a O g' n':=by
 refine⟨Nat.le_trans h.1 hn,fun x hx hO=>(hf x (Nat.lt_of_lt_of_le hx ha)).trans (h.2.1 x hx hO),?_⟩
 obtain⟨rows,h1,h2⟩:=h.2.2
 exact⟨rows,(hf O ho).trans h1,h2⟩
theorem iQ.write {a:aw} {O:Id} {g g':Rows} {n n':Nat} (h:iQ a O g n) (hn:n<=n') (hf:∀x:Id,x.bY<a.next->x≠O->g' x=g x) {rows:List (List AV)} (ho:g' O=some ⟨true,mP.pE,rows⟩) (hw:OW rows):iQ a O g' n':=
 ⟨Nat.le_trans h.1 hn,fun x hx hO=>(hf x hx hO).trans (h.2.1 x hx hO),rows,ho,hw⟩
theorem It {σ:aw} {c T O:Id} {s:ax} {ts:List ab} (h:Cy σ.get σ.next c T O s ts) (hS:iA s.aJ) (hF:∀q,0<=fK ts q->eP s.aJ (fK ts q)=true) (p:au) (t:Int) (ht:eP s.aJ t=true):
  fS (Call Tryz.prog) 229 [.ptr c 0 0,.agg (ae p),.int .i64 t] σ (fun r=>r=.bool (jF s ts p t)):=by
 unfold fS PC
 exact Or.inl (bf _ _ _ _ _ (fun r σ' hr=>⟨_,by rw[hr];exact aY _ _ _,rfl⟩) (NU (σ:=⟨V.ro σ.get,σ.next⟩) h.ro hS hF p t ht))
theorem rO {σ:aw} {c T O:Id} {s:ax} {ts:List ab} (h:Cy σ.get σ.next c T O s ts) (hc:c≠O) (hT:T≠O) (hO:∃rows,σ.get O=some ⟨true,mP.pE,rows⟩/\OW rows) (hS:iA s.aJ) (hF:∀q,0<=fK ts q->eP s.aJ (fK ts q)=true) (p:au) (hx:iB p.eT) (hy:iB p.eO):
  Call Tryz.prog 151 [.ptr c 0 0,.agg (ae p)] σ (fun r σ'=>r=.gy []/\iQ σ O σ'.get σ'.next):=by
 refine gY eH rfl fun j8=>?_
 clear j8
 have OK:=hS.Kh
 have h0:iQ σ O σ.get σ.next:=⟨Nat.le_refl _,fun _ _ _=>rfl,hO⟩
 (try((repeat(revert hN;revert N;apply Pn.out));refine wk @ae.eq_1 ?_;(repeat(refine Pn.mk ?_;intro N hN))))
 refine aZ (fun n env st=>∃k:Nat,n=(4)-k/\k<=(4)/\env 8=.int .i64 (k:Int)/\st.get ⟨151000000,σ.next⟩=some ⟨true,2,[ae p]⟩/\(σ.next<st.next/\iQ σ O st.get st.next)) (4) ⟨0,by omega,by omega,sl @ae.eq_1,sl @ae.eq_1,⟨by(try dsimp only);omega,h0.frame (Nat.le_refl _) h.ov (by(try dsimp only);omega) fun x hx=>by
  have:=dP hx
  simp only[go_sem, ↓reduceIte,Nat.reduceEqDiff,Nat.reduceAdd,Nat.reduceSub,Nat.reduceLeDiff,reduceCtorEq,this]⟩⟩ ?_
 rintro n_a env_a st_a ⟨k,rfl,ale,a8,ag0,qQ⟩ ez
 have a0:=ez 0 (by kernel_rfl);have a3:=ez 3 (by kernel_rfl)
 simp only[go_sem, ↓reduceIte,Nat.reduceEqDiff,Nat.reduceAdd,Nat.reduceSub,Nat.reduceLeDiff,reduceCtorEq,ae]at a0 a3
 clear ez
 obtain⟨an,ak⟩:=qQ
 have ha:=ak.xe h hc hT
 by_cases hk:(k:Int)<4
 ·have dd:∀{e:Env} {gg:Rows} {nx:Nat},(e 8=.int .i64 (IntKind.i64.wrap ((k:Int)+1)))->(gg ⟨151000000,σ.next⟩=some ⟨true,2,[ae p]⟩)->(σ.next<nx/\iQ σ O gg nx)->∃m0,m0<(4)-k/\∃k:Nat,m0=(4)-k/\k<=(4)/\e 8=.int .i64 (k:Int)/\gg ⟨151000000,σ.next⟩=some ⟨true,2,[ae p]⟩/\(σ.next<nx/\iQ σ O gg nx):=fun x1 x2 x3=>⟨_,by omega,k+1,rfl,by omega,(by rw[x1,az (by omega)]),x2,x3⟩
  have dK:=Er p k (kU (by omega)) hx hy
  obtain⟨b,h1⟩:=ha.row
  have v1:=dP ha.cv
  (repeat(first|((repeat(revert hN;revert N;apply Pn.out));refine wk (tw @a8 (tw @ag0 (tw @a0 (tw @a3 (tw @hk (tw @h1 (tw @v1 @ae.eq_1))))))) ?_;(repeat(refine Pn.mk ?_;intro N hN)))|((try apply Or.inl);refine⟨_,aj.x (dK) (sd (tw @a8 (tw @ag0 (tw @a0 (tw @a3 (tw @hk (tw @h1 (tw @v1 @ae.eq_1)))))))),?_⟩;refine hN _ _ ?_;clear hN N)))
  refine aZ (fun n env st=>∃t:Nat,n=(s.aJ.ai.length)-t/\t<=(s.aJ.ai.length)/\env 21=.int .i64 (t:Int)/\st.get ⟨151000000,σ.next⟩=some ⟨true,2,[ae p]⟩/\st.get ⟨151004003,st_a.next+1+1⟩=some ⟨true,2,[ae (dy p k)]⟩/\(st_a.next+3<=st.next/\iQ σ O st.get st.next/\(env 6=.cm∨∃(o:Id) (n:Nat) (rows:List (List AV)),env 6=.own o 0 n/\st.get o=some ⟨true,1,rows⟩/\rows.length=n/\0<n/\n<=t/\st_a.next+3<=o.bY/\o.bY<st.next))) (s.aJ.ai.length) ⟨0,by omega,by omega,sl (tw @a8 (tw @ag0 (tw @a0 (tw @a3 @ae.eq_1)))),sl (tw @a8 (tw @ag0 (tw @a0 (tw @a3 @ae.eq_1)))),sl (tw @a8 (tw @ag0 (tw @a0 (tw @a3 @ae.eq_1)))),⟨by(try dsimp only);omega,ak.frame ak.1 ha.ov (by(try dsimp only);omega) fun x hx=>(by
   have:=dP hx
   simp only[go_sem, ↓reduceIte,Nat.reduceEqDiff,Nat.reduceAdd,Nat.reduceSub,Nat.reduceLeDiff,reduceCtorEq,this]),.inl (sd @Nat.zero_add)⟩⟩ ?_
  rintro n_b env_b st_b ⟨t,rfl,ble,b21,bg0,bg1,bI0⟩ fM
  have b0:=fM 0 (by kernel_rfl);have b3:=fM 3 (by kernel_rfl);have b5:=fM 5 (by kernel_rfl);have b8:=fM 8 (by kernel_rfl);have Hx:=fM 20 (by kernel_rfl)
  simp only[go_sem, ↓reduceIte,Nat.reduceEqDiff,Nat.reduceAdd,Nat.reduceSub,Nat.reduceLeDiff,reduceCtorEq,a8,ag0,a0,a3,ae]at b0 b3 b5 b8 Hx
  clear fM
  obtain⟨bn,bk,b6⟩:=bI0
  have Oj:=bk.xe h hc hT
  obtain⟨b2,h2⟩:=Oj.row
  have v2:=dP Oj.cv
  have vt:=dP (i:=⟨151000000,σ.next⟩) (n:=st_b.next) (by(try dsimp only);omega)
  have vq:=dP (i:=⟨151004003,st_a.next+1+1⟩) (n:=st_b.next) (by(try dsimp only);omega)
  by_cases ht:(t:Int)<(s.aJ.ai.length:Int)
  ·have fC:∀{e:Env} {gg:Rows} {nx:Nat},(e 21=.int .i64 (IntKind.i64.wrap ((t:Int)+1)))->(gg ⟨151000000,σ.next⟩=some ⟨true,2,[ae p]⟩)->(gg ⟨151004003,st_a.next+1+1⟩=some ⟨true,2,[ae (dy p k)]⟩)->(st_a.next+3<=nx/\iQ σ O gg nx/\(e 6=.cm∨∃(o:Id) (n:Nat) (rows:List (List AV)),e 6=.own o 0 n/\gg o=some ⟨true,1,rows⟩/\rows.length=n/\0<n/\n<=(t+1)/\st_a.next+3<=o.bY/\o.bY<nx))->∃m0,m0<(s.aJ.ai.length)-t/\∃t:Nat,m0=(s.aJ.ai.length)-t/\t<=(s.aJ.ai.length)/\e 21=.int .i64 (t:Int)/\gg ⟨151000000,σ.next⟩=some ⟨true,2,[ae p]⟩/\gg ⟨151004003,st_a.next+1+1⟩=some ⟨true,2,[ae (dy p k)]⟩/\(st_a.next+3<=nx/\iQ σ O gg nx/\(e 6=.cm∨∃(o:Id) (n:Nat) (rows:List (List AV)),e 6=.own o 0 n/\gg o=some ⟨true,1,rows⟩/\rows.length=n/\0<n/\n<=t/\st_a.next+3<=o.bY/\o.bY<nx)):=fun x1 x2 x3 x4=>⟨_,by omega,t+1,rfl,by omega,(by rw[x1,az (by omega)]),x2,x3,x4⟩
   have Rr:t<s.aJ.ai.length:=by omega
   (try((repeat(revert hN;revert N;apply Pn.out));refine wk (tw @b21 (tw @bg0 (tw @bg1 (tw @b0 (tw @b3 (tw @b5 (tw @b8 (tw @Hx (tw @ht (tw @h2 (tw @v2 (tw @vt (tw @vq @ae.eq_1))))))))))))) ?_;(repeat(refine Pn.mk ?_;intro N hN))))
   refine .inl ⟨_,It (Oj.frame (by(try dsimp only);omega) (sd @v2) (by(have:=dP Oj.tv);simp only[go_sem, ↓reduceIte,Nat.reduceEqDiff,Nat.reduceAdd,Nat.reduceSub,Nat.reduceLeDiff,reduceCtorEq,this])) hS hF (dy p k) t (Kg Rr),?_⟩
   refine hN _ _ ?_
   clear hN N
   have jm:∀x:Id,x.bY<st_b.next->x≠⟨151010002,st_b.next+1+1+1⟩:=fun x hx h=>by rw[h]at hx;(try dsimp only at hx);omega
   cases hb:jF s ts (dy p k) t
   ·(try((repeat(revert hN;revert N;apply Pn.out));refine wk (tw @b21 (tw @bg0 (tw @bg1 (tw @b0 (tw @b3 (tw @b5 (tw @b8 (tw @Hx @hb)))))))) ?_;(repeat(refine Pn.mk ?_;intro N hN))))
    refine fC ?_ ?_ ?_ (by(try dsimp only);exact⟨by omega,bk.frame bk.1 Oj.ov (by omega) (fun x hx=>by
      have h1:=dP (i:=x) (n:=st_b.next) (by omega)
      simp only[go_sem, ↓reduceIte,Nat.reduceEqDiff,Nat.reduceAdd,Nat.reduceSub,Nat.reduceLeDiff,reduceCtorEq,h1]),by
     rcases b6 with h|⟨o,n,rows,h1,h2,h3,h4,h5,h6,h7⟩
     ·exact .inl (sd @h)
     ·have h8:=dP h7
      exact .inr ⟨o,n,rows,sd @h1,sd (tw @h2 @h8),h3,h4,by omega,h6,by omega⟩⟩)
    all_goals simp only[go_sem, ↓reduceIte,Nat.reduceEqDiff,Nat.reduceAdd,Nat.reduceSub,Nat.reduceLeDiff,reduceCtorEq,b21,bg0,bg1,b0,b3,b5,b8,Hx,ae,vt,vq]
   ·rcases b6 with b6|⟨o,n,rows,b6,bo,o3,o4,o5,o6,o7⟩
    ·(try((repeat(revert hN;revert N;apply Pn.out));refine wk (tw @b21 (tw @bg0 (tw @bg1 (tw @b0 (tw @b3 (tw @b5 (tw @b8 (tw @Hx (tw @b6 @hb))))))))) ?_;(repeat(refine Pn.mk ?_;intro N hN))))
     refine fC ?_ ?_ ?_ (by(try dsimp only);exact⟨by omega,bk.frame (m:=st_a.next) ak.1 ha.ov (by omega) (fun x hx=>by
      have h1:=dP (i:=x) (n:=st_b.next) (by omega)
      simp only[go_sem, ↓reduceIte,Nat.reduceEqDiff,Nat.reduceAdd,Nat.reduceSub,Nat.reduceLeDiff,reduceCtorEq,h1]),.inr ⟨⟨151010003,st_b.next+1+1+1⟩,1,[[.int .i64 t]],sl @Nat.zero_add,sd @Nat.zero_add,rfl,by omega,by omega,by(try dsimp only);omega,by(try dsimp only);omega⟩⟩)
     all_goals simp only[go_sem, ↓reduceIte,Nat.reduceEqDiff,Nat.reduceAdd,Nat.reduceSub,Nat.reduceLeDiff,reduceCtorEq,b21,bg0,bg1,b0,b3,b5,b8,Hx,ae,vt,vq]
    ·subst o3
     have e1:rows.length<=16777215:=by omega
     have vo:=dP o7
     have vto:=cZ (a:=⟨151000000,σ.next⟩) (b:=o) (by(try dsimp only);omega)
     have vqo:=cZ (a:=⟨151004003,st_a.next+1+1⟩) (b:=o) (by(try dsimp only);omega)
     (try((repeat(revert hN;revert N;apply Pn.out));refine wk (tw @b21 (tw @bg0 (tw @bg1 (tw @b0 (tw @b3 (tw @b5 (tw @b8 (tw @Hx (tw @b6 (tw @bo (tw @hb (tw @e1 @vo)))))))))))) ?_;(repeat(refine Pn.mk ?_;intro N hN))))
     refine fC ?_ ?_ ?_ (by(try dsimp only);exact⟨by omega,bk.frame (m:=st_a.next) ak.1 ha.ov (by omega) (fun x hx=>by
      have h1:=dP (i:=x) (n:=st_b.next) (by omega)
      have h2:=cZ (a:=x) (b:=o) (by omega)
      simp only[go_sem, ↓reduceIte,Nat.reduceEqDiff,Nat.reduceAdd,Nat.reduceSub,Nat.reduceLeDiff,reduceCtorEq,h1,h2]),.inr ⟨⟨151010003,st_b.next+1+1+1⟩,rows.length+1,rows++[[.int .i64 t]],sl @Nat.zero_add,sd @Nat.zero_add,by simp,by omega,by omega,by(try dsimp only);omega,by(try dsimp only);omega⟩⟩)
     all_goals simp only[go_sem, ↓reduceIte,Nat.reduceEqDiff,Nat.reduceAdd,Nat.reduceSub,Nat.reduceLeDiff,reduceCtorEq,b21,bg0,bg1,b0,b3,b5,b8,Hx,ae,vt,vq,vto,vqo]
  ·obtain⟨rows,hg,UH⟩:=bk.2.2
   have vo:=dP Oj.ov
   obtain⟨fi,Gg⟩:=Ca UH (dy p k).eT (dy p k).eO
   have hq:((⟨151000000,σ.next⟩:Id)=O)=False:=(cZ (a:=O) (b:=⟨151000000,σ.next⟩) (by have:=h.ov;(try dsimp only);omega)).2
   rcases b6 with b6|⟨o,n,rows2,b6,bo,o3,o4,o5,o6,o7⟩
   ·have d0:decide ((0:Int)<((0:Nat):Int))=false:=rfl
    (try((repeat(revert hN;revert N;apply Pn.out));refine wk (tw @b21 (tw @bg0 (tw @bg1 (tw @b0 (tw @b3 (tw @b5 (tw @b8 (tw @Hx (tw @b6 (tw @ht (tw @h2 (tw @v2 (tw @vt (tw @vq (tw @vo (tw @hg (tw @Gg (tw @ae.eq_1 @d0)))))))))))))))))) ?_;(repeat(refine Pn.mk ?_;intro N hN))))
    refine dd ?_ ?_ (by(try dsimp only);exact⟨by omega,bk.write (by omega) (fun x hx Na=>by
     have h1:=dP (i:=x) (n:=st_b.next) (by omega)
     have h2:(x=O)=False:=eq_false Na
     simp only[go_sem, ↓reduceIte,Nat.reduceEqDiff,Nat.reduceAdd,Nat.reduceSub,Nat.reduceLeDiff,reduceCtorEq,h1,h2]) (sl @Nat.zero_add) (JI UH _)⟩)
    all_goals simp only[go_sem, ↓reduceIte,Nat.reduceEqDiff,Nat.reduceAdd,Nat.reduceSub,Nat.reduceLeDiff,reduceCtorEq,a8,ag0,a0,a3,b21,bg0,bg1,b0,b3,b5,b8,Hx,ae,vt,vo,hq]
   ·have d1:decide ((0:Int)<(n:Int))=true:=decide_eq_true (by omega)
    (try((repeat(revert hN;revert N;apply Pn.out));refine wk (tw @b21 (tw @bg0 (tw @bg1 (tw @b0 (tw @b3 (tw @b5 (tw @b8 (tw @Hx (tw @b6 (tw @ht (tw @h2 (tw @v2 (tw @vt (tw @vq (tw @vo (tw @hg (tw @Gg (tw @ae.eq_1 @d1)))))))))))))))))) ?_;(repeat(refine Pn.mk ?_;intro N hN))))
    refine dd ?_ ?_ (by(try dsimp only);exact⟨by omega,bk.write (by omega) (fun x hx Na=>by
     have h1:=dP (i:=x) (n:=st_b.next) (by omega)
     have h2:(x=O)=False:=eq_false Na
     simp only[go_sem, ↓reduceIte,Nat.reduceEqDiff,Nat.reduceAdd,Nat.reduceSub,Nat.reduceLeDiff,reduceCtorEq,h1,h2]) (sl @Nat.zero_add) (O1 UH _ _ _ _)⟩)
    all_goals simp only[go_sem, ↓reduceIte,Nat.reduceEqDiff,Nat.reduceAdd,Nat.reduceSub,Nat.reduceLeDiff,reduceCtorEq,a8,ag0,a0,a3,b21,bg0,bg1,b0,b3,b5,b8,Hx,ae,vt,vo,hq]
 ·(try((repeat(revert hN;revert N;apply Pn.out));refine wk (tw @a8 (tw @ag0 (tw @a0 (tw @a3 @hk)))) ?_;(repeat(refine Pn.mk ?_;intro N hN))))
  exact gV (.inr rfl) (vs:=[]) rfl ⟨rfl,ak.frame ak.1 ha.ov (by(try dsimp only);omega) (fun x hx=>rfl)⟩
structure l6 (g:Rows) (n:Nat) (c T O:Id) (s:ax) (ts:List ab):Prop where
 row:g c=some ⟨true,6,[[.sl (s.aJ.aE.map cU),.sl (s.aJ.ai.map bI),.sl (s.aU.ai.map aa),.int .i64 s.aB,.map T mP,.map O mP]]⟩
 tl:g T=some ⟨true,mP.pE,ts.map aa⟩
 op:∃rows,g O=some ⟨true,mP.pE,rows⟩/\OW rows
 cv:c.bY<n
 tv:T.bY<n
 ov:O.bY<n
 cT:c≠T
 cO:c≠O
 TO:T≠O
theorem l6.xe {g:Rows} {n:Nat} {c T O:Id} {s:ax} {ts:List ab} (h:l6 g n c T O s ts):Cy g n c T O s ts:=⟨⟨_,h.row⟩,⟨_,h.tl⟩,h.cv,h.tv,h.ov⟩
theorem l6.look {σ:aw} {g:Rows} {n:Nat} {c T O:Id} {s:ax} {ts:List ab} (h:l6 σ.get σ.next c T O s ts) (k:iQ σ O g n):l6 g n c T O s ts:=
 ⟨(k.2.1 _ h.cv h.cO).trans h.row,(k.2.1 _ h.tv h.TO).trans h.tl,k.2.2,Nat.lt_of_lt_of_le h.cv k.1,Nat.lt_of_lt_of_le h.tv k.1,Nat.lt_of_lt_of_le h.ov k.1,h.cT,h.cO,h.TO⟩
theorem l6.frame {g g':Rows} {n n':Nat} {c T O:Id} {s:ax} {ts:List ab} (h:l6 g n c T O s ts) (hn:n<=n') (hf:∀x:Id,x.bY<n->g' x=g x):l6 g' n' c T O s ts:=
 ⟨(hf _ h.cv).trans h.row,(hf _ h.tv).trans h.tl,by rw[hf _ h.ov];exact h.op,Nat.lt_of_lt_of_le h.cv hn,Nat.lt_of_lt_of_le h.tv hn,Nat.lt_of_lt_of_le h.ov hn,h.cT,h.cO,h.TO⟩
def Tl (σ:aw) (s:ax) (ts:List ab) (r:AV) (σ':aw):Prop:=
 ∃c T O:Id,r=.ptr c 0 0/\l6 σ'.get σ'.next c T O s ts/\σ.next<=c.bY/\σ.next<=T.bY/\σ.next<=O.bY/\σ.next<=σ'.next/\∀x:Id,x.bY<σ.next->σ'.get x=σ.get x
theorem oL {l:List ab} {p:au}:dm l p<0↔∀t∈l,t.aC≠p:=by
 unfold dm pW
 by_cases h:(l.findIdx fun c=>decide (c.aC=p))<l.length
 ·rw[if_pos h]
  obtain⟨t,ht,h2⟩:=List.findIdx_lt_length.1 h
  exact⟨fun h=>by omega,fun h=>absurd (by simpa using h2) (h t ht)⟩
 ·rw[if_neg h]
  exact⟨fun _ t ht e=>h (List.findIdx_lt_length.2 ⟨t,ht,by simp[e]⟩),fun _=>by omega⟩
theorem Ke {l:List ab} (h:iM l) {k:Nat} (hk:k<l.length):dm (l.take k) (aD l k).aC<0:=by
 rw[oL]
 intro t ht e
 obtain⟨j,hj,rfl⟩:=List.getElem_of_mem ht
 have KK:j<k:=by rw[List.length_take]at hj;omega
 have:=h j k KK hk
 rw[List.getElem_take]at e
 have e2:aD l j=l[j]'(by omega):=by unfold aD;rw[List.getD_eq_getElem?_getD,List.getElem?_eq_getElem (by omega)];rfl
 rw[e2,e]at this
 simp[iI]at this
theorem Mp {l:List ab} {k:Nat} (hk:k<l.length):(l.take k).map aa++[[.int .i64 (aD l k).aC.eT,.int .i64 (aD l k).aC.eO,.int .i64 (aD l k).aQ]]=(l.take (k+1)).map aa:=by
 have e2:aD l k=l[k]:=by unfold aD;rw[List.getD_eq_getElem?_getD,List.getElem?_eq_getElem hk];rfl
 rw[List.take_succ_eq_append_getElem hk,List.map_append,e2]
 rfl
theorem iA.MH {s:ay} {l:List ab} (hA:gL s l):∀q,0<=fK l q->eP s (fK l q)=true:=fun _ h=>AX hA h
theorem zX (s:ax) (hS:iA s.aJ) (l:List ab) (hA:gL s.aJ l) (σ:aw):Call Tryz.prog 83 [.agg (ar s),.agg [.sl (l.map aa)]] σ (Tl σ s l):=by
 refine gY eH rfl fun j8=>?_
 clear j8
 have IH:=hA.1.lL
 (try((repeat(revert hN;revert N;apply Pn.out));refine wk @ar.eq_1 ?_;(repeat(refine Pn.mk ?_;intro N hN))))
 refine aZ (fun n env st=>∃k:Nat,n=(l.length)-k/\k<=(l.length)/\env 18=.int .i64 (k:Int)/\st.get ⟨83001004,σ.next+1⟩=some ⟨true,6,[[.sl (s.aJ.aE.map cU),.sl (s.aJ.ai.map bI),.sl (s.aU.ai.map aa),.int .i64 s.aB,.map ⟨83001001,σ.next+1⟩ mP,.map ⟨83001002,σ.next+1⟩ mP]]⟩/\st.get ⟨83001001,σ.next+1⟩=some ⟨true,mP.pE,(l.take k).map aa⟩/\st.get ⟨83001002,σ.next+1⟩=some ⟨true,mP.pE,[]⟩/\st.get ⟨83000001,σ.next⟩=some ⟨true,1,[[.sl (l.map aa)]]⟩/\(σ.next+3<=st.next/\∀x:Id,x.bY<σ.next->st.get x=σ.get x)) (l.length) ⟨0,by omega,by omega,sl @Nat.zero_add,sl @Nat.zero_add,sl @Nat.zero_add,sl @Nat.zero_add,sl @Nat.zero_add,⟨by(try dsimp only);omega,fun x hx=>by
  have:=dP hx
  simp only[go_sem, ↓reduceIte,Nat.reduceEqDiff,Nat.reduceAdd,Nat.reduceSub,Nat.reduceLeDiff,reduceCtorEq,this]⟩⟩ ?_
 rintro n_a env_a st_a ⟨k,rfl,ale,a18,ag0,ag1,ag2,ag3,qQ⟩ ez
 have a3:=ez 3 (by kernel_rfl);have a5:=ez 5 (by kernel_rfl);have PS:=ez 16 (by kernel_rfl);have a17:=ez 17 (by kernel_rfl)
 simp only[go_sem, ↓reduceIte,Nat.reduceEqDiff,Nat.reduceAdd,Nat.reduceSub,Nat.reduceLeDiff,reduceCtorEq]at a3 a5 PS a17
 clear ez
 obtain⟨an,ez⟩:=qQ
 have v1:=dP (i:=⟨83001004,σ.next+1⟩) (n:=st_a.next) (by(try dsimp only);omega)
 have v2:=dP (i:=⟨83001001,σ.next+1⟩) (n:=st_a.next) (by(try dsimp only);omega)
 have v3:=dP (i:=⟨83001002,σ.next+1⟩) (n:=st_a.next) (by(try dsimp only);omega)
 have v4:=dP (i:=⟨83000001,σ.next⟩) (n:=st_a.next) (by(try dsimp only);omega)
 by_cases hk:(k:Int)<(l.length:Int)
 ·have dd:∀{e:Env} {gg:Rows} {nx:Nat},(e 18=.int .i64 (IntKind.i64.wrap ((k:Int)+1)))->(gg ⟨83001004,σ.next+1⟩=some ⟨true,6,[[.sl (s.aJ.aE.map cU),.sl (s.aJ.ai.map bI),.sl (s.aU.ai.map aa),.int .i64 s.aB,.map ⟨83001001,σ.next+1⟩ mP,.map ⟨83001002,σ.next+1⟩ mP]]⟩)->(gg ⟨83001001,σ.next+1⟩=some ⟨true,mP.pE,(l.take (k+1)).map aa⟩)->(gg ⟨83001002,σ.next+1⟩=some ⟨true,mP.pE,[]⟩)->(gg ⟨83000001,σ.next⟩=some ⟨true,1,[[.sl (l.map aa)]]⟩)->(σ.next+3<=nx/\∀x:Id,x.bY<σ.next->gg x=σ.get x)->∃m0,m0<(l.length)-k/\∃k:Nat,m0=(l.length)-k/\k<=(l.length)/\e 18=.int .i64 (k:Int)/\gg ⟨83001004,σ.next+1⟩=some ⟨true,6,[[.sl (s.aJ.aE.map cU),.sl (s.aJ.ai.map bI),.sl (s.aU.ai.map aa),.int .i64 s.aB,.map ⟨83001001,σ.next+1⟩ mP,.map ⟨83001002,σ.next+1⟩ mP]]⟩/\gg ⟨83001001,σ.next+1⟩=some ⟨true,mP.pE,(l.take k).map aa⟩/\gg ⟨83001002,σ.next+1⟩=some ⟨true,mP.pE,[]⟩/\gg ⟨83000001,σ.next⟩=some ⟨true,1,[[.sl (l.map aa)]]⟩/\(σ.next+3<=nx/\∀x:Id,x.bY<σ.next->gg x=σ.get x):=fun x1 x2 x3 x4 x5 x6=>⟨_,by omega,k+1,rfl,by omega,(by rw[x1,az (by omega)]),x2,x3,x4,x5,x6⟩
  have fm:k<l.length:=by omega
  have hg:=fa fm
  have hm:=qK (Ke hA.1.uh fm)
  have qz:=Mp fm
  (try((repeat(revert hN;revert N;apply Pn.out));refine wk (tw @a18 (tw @ag0 (tw @ag1 (tw @ag2 (tw @ag3 (tw @a3 (tw @a5 (tw @PS (tw @a17 (tw @hk (tw @hg (tw @hm (tw @v1 (tw @v2 (tw @v3 (tw @v4 @aa.eq_1)))))))))))))))) ?_;(repeat(refine Pn.mk ?_;intro N hN))))
  refine dd ?_ ?_ ?_ ?_ ?_ (by(try dsimp only);exact⟨by omega,fun x hx=>by
   have h1:=dP (i:=x) (n:=st_a.next) (by omega)
   have h2:=cZ (a:=x) (b:=⟨83001001,σ.next+1⟩) (by(try dsimp only);omega)
   have h3:=ez x hx
   simp only[go_sem, ↓reduceIte,Nat.reduceEqDiff,Nat.reduceAdd,Nat.reduceSub,Nat.reduceLeDiff,reduceCtorEq,h1,h2,h3]⟩)
  all_goals simp only[go_sem, ↓reduceIte,Nat.reduceEqDiff,Nat.reduceAdd,Nat.reduceSub,Nat.reduceLeDiff,reduceCtorEq,a18,ag0,ag1,ag2,ag3,a3,a5,PS,a17,aa,v1,v2,v3,v4,qz]
 ·have kq:k=l.length:=by omega
  subst kq
  have mm:l.take l.length=l:=List.take_length
  (try((repeat(revert hN;revert N;apply Pn.out));refine wk (tw @a18 (tw @ag0 (tw @ag1 (tw @ag2 (tw @ag3 (tw @a3 (tw @a5 (tw @PS (tw @a17 (tw @hk (tw @v1 (tw @v2 (tw @v3 @v4))))))))))))) ?_;(repeat(refine Pn.mk ?_;intro N hN))))
  refine aZ (fun n env st=>∃j:Nat,n=(l.length)-j/\j<=(l.length)/\env 34=.int .i64 (j:Int)/\(σ.next+3<=st.next/\l6 st.get st.next ⟨83001004,σ.next+1⟩ ⟨83001001,σ.next+1⟩ ⟨83001002,σ.next+1⟩ s l/\∀x:Id,x.bY<σ.next->st.get x=σ.get x)) (l.length) ⟨0,by omega,by omega,sl (tw @a18 (tw @ag0 (tw @ag1 (tw @ag2 (tw @ag3 (tw @a3 (tw @a5 (tw @PS @a17)))))))),by(try dsimp only);exact⟨by omega,⟨sd @ag0,sd (tw @ag1 @mm),⟨[],sd @ag2,by intro r hr;cases hr⟩,by(try dsimp only);omega,by(try dsimp only);omega,by(try dsimp only);omega,(by intro e;injection e with e1 e2;revert e1;decide),(by intro e;injection e with e1 e2;revert e1;decide),(by intro e;injection e with e1 e2;revert e1;decide)⟩,fun x hx=>by
   have h3:=ez x hx
   simp only[go_sem, ↓reduceIte,Nat.reduceEqDiff,Nat.reduceAdd,Nat.reduceSub,Nat.reduceLeDiff,reduceCtorEq,h3]⟩⟩ ?_
  rintro n_b env_b st_b ⟨j,rfl,ble,b34,bI0⟩ fM
  have b5:=fM 5 (by kernel_rfl);have tq:=fM 32 (by kernel_rfl);have tX:=fM 33 (by kernel_rfl)
  simp only[go_sem, ↓reduceIte,Nat.reduceEqDiff,Nat.reduceAdd,Nat.reduceSub,Nat.reduceLeDiff,reduceCtorEq,a18,ag0,ag1,ag2,ag3,a3,a5,PS,a17]at b5 tq tX
  clear fM
  obtain⟨bn,bC,fM⟩:=bI0
  by_cases hj:(j:Int)<(l.length:Int)
  ·have fC:∀{e:Env} {gg:Rows} {nx:Nat},(e 34=.int .i64 (IntKind.i64.wrap ((j:Int)+1)))->(σ.next+3<=nx/\l6 gg nx ⟨83001004,σ.next+1⟩ ⟨83001001,σ.next+1⟩ ⟨83001002,σ.next+1⟩ s l/\∀x:Id,x.bY<σ.next->gg x=σ.get x)->∃m0,m0<(l.length)-j/\∃j:Nat,m0=(l.length)-j/\j<=(l.length)/\e 34=.int .i64 (j:Int)/\(σ.next+3<=nx/\l6 gg nx ⟨83001004,σ.next+1⟩ ⟨83001001,σ.next+1⟩ ⟨83001002,σ.next+1⟩ s l/\∀x:Id,x.bY<σ.next->gg x=σ.get x):=fun x1 x2=>⟨_,by omega,j+1,rfl,by omega,(by rw[x1,az (by omega)]),x2⟩
   have nR:j<l.length:=by omega
   have hg:=fa nR
   have Ri:=s6 (hA.1.pt nR)
   (try((repeat(revert hN;revert N;apply Pn.out));refine wk (tw @b34 (tw @b5 (tw @tq (tw @tX (tw @hj (tw @hg @aa.eq_1)))))) ?_;(repeat(refine Pn.mk ?_;intro N hN))))
   have QG:l6 (br (br st_b.get ⟨83009002,st_b.next+1⟩ ⟨true,3,[[.int .i64 0,.int .i64 0,.int .i64 0]]⟩) ⟨83009002,st_b.next+1⟩ ⟨true,3,[[.int .i64 (aD l j).aC.eT,.int .i64 (aD l j).aC.eO,.int .i64 (aD l j).aQ]]⟩) (st_b.next+1+1+1) ⟨83001004,σ.next+1⟩ ⟨83001001,σ.next+1⟩ ⟨83001002,σ.next+1⟩ s l:=bC.frame (by omega) fun x hx=>by
    have h1:=dP hx
    simp only[go_sem, ↓reduceIte,Nat.reduceEqDiff,Nat.reduceAdd,Nat.reduceSub,Nat.reduceLeDiff,reduceCtorEq,h1]
   refine .inr (bf _ _ _ _ _ (fun r σ1 hq=>?_) (rO (σ:=⟨br (br st_b.get ⟨83009002,st_b.next+1⟩ ⟨true,3,[[.int .i64 0,.int .i64 0,.int .i64 0]]⟩) ⟨83009002,st_b.next+1⟩ ⟨true,3,[[.int .i64 (aD l j).aC.eT,.int .i64 (aD l j).aC.eO,.int .i64 (aD l j).aQ]]⟩,st_b.next+1+1+1⟩) QG.xe QG.cO QG.TO QG.op hS (iA.MH hA) (aD l j).aC Ri.1 Ri.2))
   obtain⟨g1,x1⟩:=σ1
   obtain⟨rfl,hL⟩:=hq
   (try dsimp only at hL)
   have Iz:=QG.look hL
   have Ss:=hL.1
   have hLf:=hL.2.1
   (try dsimp only at Ss hLf)
   refine hN _ _ ?_
   clear hN N
   (try((repeat(revert hN;revert N;apply Pn.out));refine wk (tw @b34 (tw @b5 (tw @tq @tX))) ?_;(repeat(refine Pn.mk ?_;intro N hN))))
   exact fC (sd (tw @b34 (tw @b5 (tw @tq @tX)))) (by(try dsimp only);exact⟨by omega,Iz.frame (by omega) (fun x hx=>rfl),fun x hx=>by
    have h1:=dP (i:=x) (n:=st_b.next) (by omega)
    have h2:=hLf x (by omega) (fun e=>by rw[e]at hx;(try dsimp only at hx);omega)
    have h3:=fM x hx
    simp only[h2]
    simp only[go_sem, ↓reduceIte,Nat.reduceEqDiff,Nat.reduceAdd,Nat.reduceSub,Nat.reduceLeDiff,reduceCtorEq,h1,h3]⟩)
  ·(try((repeat(revert hN;revert N;apply Pn.out));refine wk (tw @b34 (tw @b5 (tw @tq (tw @tX @hj)))) ?_;(repeat(refine Pn.mk ?_;intro N hN))))
   exact gV (.inl rfl) (vs:=[.ptr ⟨83001004,σ.next+1⟩ 0 0]) (sd @Nat.zero_add) ⟨_,_,_,rfl,bC.frame (by(try dsimp only);omega) (fun x hx=>rfl),by(try dsimp only);omega,by(try dsimp only);omega,by(try dsimp only);omega,by(try dsimp only);omega,fM⟩
end Go.Proofs.YtgoljkjaameagaaGreat.V

namespace Go.Proofs.YtgoljkjaameagaaGreat.V
open Go.RowKit
def iG:List ab->ab->List ab
 |[],q=>[q]
 |x::r,q=>if iI q.aC x.aC=true then q::x::r else x::iG r q
theorem oP {q x:ab}:∀{l:List ab},x∈iG l q↔x=q∨x∈l
 |[]=>by simp[iG]
 |y::r=>by
  have ih:=@oP q x r
  rw[iG]
  split
  ·simp
  ·simp only[List.mem_cons,ih]
   constructor
   ·rintro(h|h|h)<;>simp[h]
   ·rintro(h|h|h)<;>simp[h]
theorem oX (q:ab):∀l:List ab,(iG l q).length=l.length+1
 |[]=>rfl
 |y::r=>by
  have ih:=oX q r
  rw[iG]
  split
  ·simp
  ·simp[ih]
theorem k9 {l:List ab}:iM l↔l.Pairwise fun a b=>iI a.aC b.aC=true:=by
 rw[List.pairwise_iff_getElem]
 constructor
 ·intro h i j hi hj zF
  have:=h i j zF hj
  rwa [ei hi,ei hj]at this
 ·intro h i j zF hj
  have:=h i j (by omega) hj zF
  rwa [ei (by omega),ei hj]
theorem lS {l:List ab} {p:au}:dm l p<0↔∀t∈l,t.aC≠p:=oL
theorem JM {q:ab}:∀{l:List ab},iM l->dm l q.aC<0->iM (iG l q):=by
 intro l
 rw[k9,k9,lS]
 induction l with
 |nil=>intro _ _;exact List.pairwise_singleton _ _
 |cons y r ih=>
  intro h hn
  obtain⟨h1,h2⟩:=List.pairwise_cons.1 h
  rw[iG]
  split
  ·rename_i hl
   refine List.pairwise_cons.2 ⟨fun x hx=>?_,h⟩
   rcases List.mem_cons.1 hx with rfl|hx
   ·exact hl
   ·exact il hl (h1 x hx)
  ·rename_i hl
   rw[Bool.not_eq_true]at hl
   refine List.pairwise_cons.2 ⟨fun x hx=>?_,ih h2 fun t ht=>hn t (by simp[ht])⟩
   rcases oP.1 hx with rfl|hx
   ·exact Ft hl fun e=>hn y (by simp) e.symm
   ·exact h1 x hx
theorem jQ (x:ab) (r:List ab) (p:au):fK (x::r) p=if x.aC=p then x.aQ else fK r p:=by
 unfold fK dm pW
 rw[List.findIdx_cons]
 by_cases h:x.aC=p
 ·simp[h,aD]
 ·simp only[h,decide_false,cond_false,List.length_cons,Nat.add_lt_add_iff_right,if_false]
  by_cases hl:(r.findIdx fun c=>decide (c.aC=p))<r.length
  ·rw[if_pos hl,if_pos hl,if_pos (by omega),if_pos (by omega)]
   simp[aD]
  ·rw[if_neg hl,if_neg hl];rfl
theorem AW {q:ab} (p:au):∀{l:List ab},(∀t∈l,t.aC≠q.aC)->fK (iG l q) p=if q.aC=p then q.aQ else fK l p
 |[],_=>by rw[iG,jQ]
 |x::r,h=>by
  have ih:=@AW q p r fun t ht=>h t (by simp[ht])
  rw[iG]
  split
  ·rw[jQ]
  ·rw[jQ,ih,jQ]
   by_cases h1:x.aC=p
   ·have h2:q.aC≠p:=fun e=>h x (by simp) (h1.trans e.symm)
    rw[if_pos h1,if_neg h2,if_pos h1]
   ·rw[if_neg h1,if_neg h1]
theorem zg {q:ab} (p:au):∀{l:List ab},(∀t∈l,t.aC≠q.aC)->fK (l++[q]) p=if q.aC=p then q.aQ else fK l p
 |[],_=>by rw[List.nil_append,jQ]
 |x::r,h=>by
  have ih:=@zg q p r fun t ht=>h t (by simp[ht])
  rw[List.cons_append,jQ,ih,jQ]
  by_cases h1:x.aC=p
  ·have h2:q.aC≠p:=fun e=>h x (by simp) (h1.trans e.symm)
   rw[if_pos h1,if_neg h2,if_pos h1]
  ·rw[if_neg h1,if_neg h1]
theorem sW {α:Type} [DecidableEq α]:∀{xs ys:List α},xs.Nodup->(∀x∈xs,x∈ys)->xs.length<=ys.length
 |[],_,_,_=>Nat.zero_le _
 |x::xs,ys,hn,h=>by
  obtain⟨h1,h2⟩:=List.nodup_cons.1 hn
  have hx:=h x (by simp)
  have:=@sW α _ xs (ys.erase x) h2 fun y hy=>(List.mem_erase_of_ne fun e=>h1 (by rw[<-e];exact hy)).2 (h y (by simp[hy]))
  rw[List.length_erase_of_mem hx]at this
  have:=List.length_pos_of_mem hx
  rw[List.length_cons];omega
theorem G3 {l:List ab} (h:iM l):l.Nodup:=by
 rw[k9]at h
 refine List.Pairwise.imp (fun {a b} po e=>?_) h
 rw[e,iF]at po;cases po
abbrev iL:=List ab×List ab
noncomputable def jx (s:ax) (st:iL) (x:ab):iL:=if jF s st.2 x.aC x.aQ=true then(st.1++[x],iG st.2 x)else st
noncomputable def gE (s:ax) (l:List ab) (st:iL):iL:=l.foldl (jx s) st
noncomputable def v8 (s:ax) (l:List ab):Nat->iL->iL
 |0,st=>st
 |n+1,st=>if (gE s l st).1.length=st.1.length then gE s l st else v8 s l n (gE s l st)
noncomputable def kF (s:ax) (l:List ab):iL:=v8 s l (l.length+1) ([],s.aU.ai)
def oF (l now:List ab):Nat:=(l.filter fun x=>decide (dm now x.aC<0)).length
theorem filter_lt {α:Type} {p q:α->Bool} (hpq:∀x,q x=true->p x=true) {x:α} (hp:p x=true) (hq:q x=false):∀{l:List α},x∈l->(l.filter q).length<(l.filter p).length:=by
 have le:∀l:List α,(l.filter q).length<=(l.filter p).length:=fun l=>by
  induction l with
  |nil=>exact Nat.le_refl _
  |cons y r ih=>
   rw[List.filter_cons,List.filter_cons]
   cases h1:q y
   ·cases h2:p y<;>simp<;>omega
   ·rw[hpq y h1];simp;omega
 intro l hl
 induction l with
 |nil=>cases hl
 |cons y r ih=>
  rcases List.mem_cons.1 hl with rfl|hl
  ·have:=le r
   rw[List.filter_cons,List.filter_cons,hp,hq];simp;omega
  ·have:=ih hl
   rw[List.filter_cons,List.filter_cons]
   cases h1:q y
   ·cases h2:p y<;>simp<;>omega
   ·rw[hpq y h1];simp;omega
structure oa (s:ax) (l:List ab) (st:iL):Prop where
 uh:iM st.2
 sub:∀x∈st.2,x∈l
 done:∀x∈st.1,x∈l
 len:st.2.length=s.aU.ai.length+st.1.length
theorem oa.lL {s:ax} {l:List ab} {st:iL} (h:oa s l st):st.2.length<=l.length:=by
 classical
 exact sW (G3 h.uh) h.sub
theorem oa.AF {s:ax} {l:List ab} {st:iL} (h:oa s l st) (hA:gL s.aJ l):gL s.aJ st.2:=by
 refine⟨⟨Nat.le_trans h.lL hA.1.lL,fun i hi=>?_⟩,fun t ht=>hA.2 t (h.sub t ht)⟩
 obtain⟨j,hj,gP⟩:=List.getElem_of_mem (h.sub _ (fj hi))
 have h1:=hA.1.ok j hj
 rw[CT,ei hj,gP]at h1
 exact⟨h1.1,h1.2.1,fun h0=>h.uh _ _ (by omega) hi⟩
theorem oD {s:ax} {l:List ab} (hA:gL s.aJ l) {now:List ab} (hs:∀x∈now,x∈l) {p:au} {t:Int} (h:jF s now p t=true):dm now p<0:=by
 rcases Int.lt_or_le (dm now p) 0 with h0|h0
 ·exact h0
 ·exfalso
  obtain⟨h1,_⟩:=gj h0
  have h2:=(ek (hA.2 _ (hs _ (fj h1)))).1
  simp[jF,fK,h0]at h
  omega
theorem oa.step {s:ax} {l:List ab} {st:iL} (h:oa s l st) (hA:gL s.aJ l) {x:ab} (hx:x∈l):oa s l (jx s st x):=by
 unfold jx
 split
 ·rename_i hf
  have h0:=oD hA h.sub hf
  exact⟨JM h.uh h0,fun y hy=>by rcases oP.1 hy with rfl|hy;exact hx;exact h.sub y hy,fun y hy=>by
   rcases List.mem_append.1 hy with hy|hy
   ·exact h.done y hy
   ·rw[List.mem_singleton.1 hy];exact hx,by rw[oX,List.length_append,List.length_singleton,h.len];omega⟩
 ·exact h
theorem Ga {s:ax} {l:List ab} {st:iL} (h:oa s l st) (hA:gL s.aJ l) {x:ab} (hx:x∈l):oF l (jx s st x).2+(jx s st x).1.length<=oF l st.2+st.1.length:=by
 unfold jx
 split
 ·rename_i hf
  have h0:=oD hA h.sub hf
  have:oF l (iG st.2 x)<oF l st.2:=filter_lt (x:=x) (fun y hy=>by
   simp only[decide_eq_true_eq,lS]at hy ⊢
   exact fun t ht=>hy t (oP.2 (.inr ht))) (by simpa using h0) (by
   simp only[decide_eq_false_iff_not,lS]
   exact fun h=>h x (oP.2 (.inl rfl)) rfl) hx
  simp only[List.length_append,List.length_singleton]
  omega
 ·exact Nat.le_refl _
noncomputable def fQ (s:ax) (l:List ab) (st:iL) (i:Nat):iL:=(l.take i).foldl (jx s) st
theorem qF (s:ax) (l:List ab) (st:iL) {i:Nat} (hi:i<l.length):fQ s l st (i+1)=jx s (fQ s l st i) (aD l i):=by
 unfold fQ
 rw[List.take_succ_eq_append_getElem hi,List.foldl_append,ei hi];rfl
theorem pw (s:ax) (l:List ab) (st:iL):fQ s l st l.length=gE s l st:=by rw[fQ,List.take_length];rfl
theorem wZ {s:ax} {l:List ab} {st:iL} (h:oa s l st) (hA:gL s.aJ l):∀i,i<=l.length->oa s l (fQ s l st i)/\oF l (fQ s l st i).2+(fQ s l st i).1.length<=oF l st.2+st.1.length/\st.1.length<=(fQ s l st i).1.length
 |0,_=>by simp[fQ];exact h
 |i+1,hi=>by
  obtain⟨h1,h2,h3⟩:=wZ h hA i (by omega)
  rw[qF s l st hi]
  refine⟨h1.step hA (fj hi),Nat.le_trans (Ga h1 hA (fj hi)) h2,Nat.le_trans h3 ?_⟩
  unfold jx
  split
  ·simp
  ·exact Nat.le_refl _
theorem E0 (l now:List ab):oF l now<=l.length:=List.length_filter_le _ _
structure AQ (s:ax):Prop where
 set:iA s.aJ
 nr:gL s.aJ s.aU.ai
 some:1<=s.aU.ai.length
 Hj:jb s.aB 1 16=true
theorem AP.w {s:ax} (h:AP s):AQ s:=⟨h.set,h.nr,h.some,h.Hj⟩
theorem sR {s:ax} {l:List ab} (hP:AQ s) (hA:gL s.aJ l) (hW:eX s.aU.ai l=true):oa s l ([],s.aU.ai):=by
 refine⟨hP.nr.1.uh,fun x hx=>?_,fun x hx=>by(cases hx),rfl⟩
 unfold eX at hW
 rw[List.all_eq_true]at hW
 have h1:=of_decide_eq_true (hW x hx)
 have h2:=(ek (hP.nr.2 x hx)).1
 have h0:0<=dm l x.aC:=by
  rcases Int.lt_or_le (dm l x.aC) 0 with h0|h0
  ·rw[fK,if_neg (by omega)]at h1;omega
  ·exact h0
 obtain⟨h3,h4⟩:=gj h0
 rw[fK,if_pos h0]at h1
 have:x=aD l (dm l x.aC).toNat:=by
  cases tJ:aD l (dm l x.aC).toNat with
  |mk a t=>rw[tJ]at h1 h4;cases x;simp_all
 rw[this];exact fj h3
theorem yw {s:ax} {l:List ab} {st:iL} (h:oa s l st) (hA:gL s.aJ l) {n:Nat} (hn:oF l st.2<n):
  ((gE s l st).1.length=st.1.length->v8 s l n st=gE s l st)/\
  ((gE s l st).1.length≠st.1.length->∃m,n=m+1/\v8 s l n st=v8 s l m (gE s l st)/\oF l (gE s l st).2<m):=by
 obtain⟨m,rfl⟩:∃m,n=m+1:=⟨n-1,by omega⟩
 obtain⟨h1,h2,h3⟩:=wZ h hA l.length (Nat.le_refl _)
 rw[pw]at h1 h2 h3
 refine⟨fun e=>by rw[v8,if_pos e],fun e=>⟨m,rfl,by rw[v8,if_neg e],by omega⟩⟩
end Go.Proofs.YtgoljkjaameagaaGreat.V

namespace Go.Proofs.YtgoljkjaameagaaGreat.V
open Go.RowKit Go.Shelf Go.Lib Go.Sort
instance:Inhabited ab:=⟨⟨⟨0,0⟩,0⟩⟩
variable {P:Program} {w:World} {D:Nat->Prop} {ι:Names}
def FX (a b:ab):Int:=pR a.aC b.aC
theorem uo (a b:ab):ltOf FX a b=iI a.aC b.aC:=by rw[ltOf,FX,pj]
def HR:Prop:=∀(xo off cap:Nat) (d:Array ab) (w:World),HoldsK eV 3 w xo off d->xo<w.heap.size->d.size<4611686018427387904->
 Calls Tryz.prog 185 #[.slice (some ⟨xo,off,none⟩) d.size cap,.func (.func 186) #[] #[]] w fun e w'=>e=.returned (.tuple #[])/\∃d' n os,PermIn 0 d.size d d'/\SortedIn (ltOf FX) 0 d.size d'/\w'=sortWorldK eV 3 w xo off n d' os
def HS:Prop:=∀(p:Option Addr) (cap:Nat) (fv:Value) (w:World),Calls Tryz.prog 185 #[.slice p 0 cap,fv] w fun e w'=>e=.returned (.tuple #[])/\w'=w
theorem Ik (p:ab) (j:Nat) (a:AV) (h:(aa p)[j]? =some a) (P:Program) (w:World) (D:Nat->Prop) (ι:Names):cW P w D ι a (eV p)[j]! :=by
 match j,h with
 |0,h=>simp[aa]at h;subst h;exact .eQ _ _ (.int _ _)
 |1,h=>simp[aa]at h;subst h;exact .eQ _ _ (.int _ _)
 |2,h=>simp[aa]at h;subst h;exact .eQ _ _ (.int _ _)
 |j+3,h=>simp[aa]at h
theorem Ha (hC:HR) (hN:HS) (ps:List ab) (hlen:ps.length<=1048576) (σ:aw) (id:Id) (hg:σ.get id=some ⟨true,3,ps.map aa⟩):
  Call Tryz.prog 185 [.own id 0 ps.length,.fn 186 []] σ fun r σ'=>σ'.next=σ.next/\(∀x,x≠id->σ'.get x=σ.get x)/\∃qs,σ'.get id=some ⟨true,3,qs.map aa⟩/\qs.length=ps.length/\qs.Perm ps/\∀i j:Nat,i<j->j<qs.length->iI (aD qs j).aC (aD qs i).aC=false:=by
 refine gQ fun hs D ι w vs S U A=>?_
 obtain⟨u1,us1,rfl,h1,h2⟩:=yT A
 obtain⟨u2,us2,h3,h4,h5⟩:=yT h2
 simp at h3;subst h3
 have:=JO h5
 simp at this;subst this
 obtain⟨o,cap,B,rfl,hB,IC,ho,sM,hmax,hk⟩:=iY h1
 obtain⟨Vb,gf,rfl,_,hz,_,_⟩:=Aa h4
 have hz':Vb= #[]:=Array.eq_empty_of_size_eq_zero (by simpa using hz)
 subst hz'
 by_cases h0:ps=[]
 ·subst h0
  refine(hN _ _ _ w).mono ?_
  rintro e w' ⟨rfl,rfl⟩
  exact⟨.gy [],σ.get,σ.next,D,ι,_,rfl,⟨rfl,fun _ _=>rfl,[],hg,rfl,List.Perm.refl _,fun i j _ hj=>by simp at hj⟩,Step.refl _ _ _ _,S,U,Nat.le_refl _,.gy [] #[] (fun _=>Go.undef) rfl (fun j hj=>by simp at hj) (fun j a h=>by simp at h)⟩
 have kn:0<ps.length:=List.length_pos_iff.2 h0
 obtain⟨B',dF,R,jZ,pr⟩:=S.row id _ hg
 rw[hB]at dF;injection dF with dF;subst dF
 replace R:=R.row hk
 have ft:B.sz=3:=R.sz
 have CI:o=0:=by rcases ho with h|h<;>omega
 subst CI
 obtain⟨cur,T,hblk,dq,CC⟩:=R.cur
 have By:ps.length*3<=B.C:=by simpa using R.fits
 have hH:HoldsK eV 3 w B.b 0 ps.toArray:=by
  intro t ht
  rw[size_flatK]at ht
  have ht2:t<ps.length*3:=by simpa using ht
  have hi:t / 3<ps.length:=by omega
  have CD:w.frozen? ⟨B.b,0+t,none⟩=false:=by
   simp only[World.frozen?,hblk];simp
  refine⟨?_,CD⟩
  rw[get_flatK _ _ _ _ ht]
  have hd:(ps.toArray)[t / 3]! =ps[t / 3]:=by simp[getElem!_pos,hi]
  rw[hd]
  have hj:t % 3=0∨t % 3=1∨t % 3=2:=by omega
  have ht3:0+t=(t / 3)*3+t % 3:=by omega
  rw[ht3]
  rcases hj with hj|hj|hj
  ·obtain⟨v,hv,hr⟩:=R.at_ (t / 3) 0 (aa ps[t / 3]) _ (by simp[hi]) rfl
   rw[du hr]at hv
   rw[hj];exact hv
  ·obtain⟨v,hv,hr⟩:=R.at_ (t / 3) 1 (aa ps[t / 3]) _ (by simp[hi]) rfl
   rw[du hr]at hv
   rw[hj];exact hv
  ·obtain⟨v,hv,hr⟩:=R.at_ (t / 3) 2 (aa ps[t / 3]) _ (by simp[hi]) rfl
   rw[du hr]at hv
   rw[hj];exact hv
 have nX:B.b<w.heap.size:=(Array.getElem?_eq_some_iff.1 hblk).1
 have QU:=hC B.b 0 cap ps.toArray w hH nX (by simp;omega)
 rw[show ps.toArray.size=ps.length from by simp]at QU
 refine QU.mono ?_
 rintro e w' ⟨rfl,d',m,os,⟨Ff,_,Fb⟩,hsort,rfl⟩
 have Q1:d'.size=ps.length:=by rw[Ff];simp
 have P9:d'.toList.length=ps.length:=by simpa using Q1
 have hP:d'.toList.Perm ps:=by
  have e1:d'.extract 0 ps.length=d':=by rw[<-Q1];exact Array.extract_size
  have e2:ps.toArray.extract 0 ps.length=ps.toArray:=by
   have:ps.length=ps.toArray.size:=by simp
   rw[this];exact Array.extract_size
  rw[e1,e2]at Fb
  simpa using Fb
 have hF:∀t,t<ps.length*3->(flatK eV 3 d')[t]! =(eV d'[t / 3]!)[t % 3]! :=fun t ht=>get_flatK _ _ _ _ (by rw[Q1];exact ht)
 have hFs:(flatK eV 3 d').size=ps.length*3:=by rw[size_flatK,Q1]
 have hw:sortWorldK eV 3 w B.b 0 m d' os=Go.Sort.grow (Go.Sort.putRow (fun v:Value=>v) (Go.Sort.ahead w m) B.b 0 (flatK eV 3 d')) os:=rfl
 rw[hw]
 clear hw hH
 generalize flatK eV 3 d'=Fl at hF hFs ⊢
 have vV:=S.put (r':=⟨true,3,d'.toList.map aa⟩) (cur':=Go.Sort.putCells (fun v:Value=>v) 0 Fl cur) hg rfl hB hblk (by simp[Go.Sort.putCells]) rfl rfl (by simpa[Q1]using By) (fun cs dq=>by
   obtain⟨x,_,rfl⟩:=List.mem_map.1 dq;rfl) (fun cs dq a ha=>by
   obtain⟨x,_,rfl⟩:=List.mem_map.1 dq
   simp[aa]at ha;rcases ha with rfl|rfl|rfl<;>rfl) (fun i j cs a hi hj=>by
   have yg:i<d'.toList.length:=by
    have:=(List.getElem?_eq_some_iff.1 hi).1
    simpa using this
   have hj2:j<3:=by
    have:=List.mem_of_getElem? hi
    obtain⟨x,_,rfl⟩:=List.mem_map.1 this
    exact(List.getElem?_eq_some_iff.1 hj).1
   have Lm:cs=aa d'[i]! :=by
    rw[List.getElem?_map,List.getElem?_eq_getElem yg]at hi
    simp at hi
    rw[<-hi,getElem!_pos d' i (by simpa using yg)]
   subst Lm
   have OK:i*3+j<ps.length*3:=by omega
   refine⟨(eV d'[i]!)[j]!,?_,Ik _ _ _ hj _ _ _ _⟩
   have ly:i*3+j<cur.size:=by rw[dq];omega
   show(Go.Sort.putCells (fun v:Value=>v) 0 Fl cur)[i*3+j]? = _
   simp only[Go.Sort.putCells,Array.getElem?_mapIdx,Array.getElem?_eq_getElem ly,Option.map_some]
   rw[if_pos ⟨Nat.zero_le _,by rw[hFs];omega⟩,Nat.sub_zero,hF _ OK,show(i*3+j) / 3=i from by omega,show(i*3+j) % 3=j from by omega])
 obtain⟨S1,sr⟩:=vV
 have Rp:(Go.Sort.putRow (fun v:Value=>v) (Go.Sort.ahead w m) B.b 0 Fl).heap.size=w.heap.size:=by simp
 have MX:∀k,k<(w.setRow B.b (Go.Sort.putCells (fun v:Value=>v) 0 Fl cur)).heap.size->(Go.Sort.grow (Go.Sort.putRow (fun v:Value=>v) (Go.Sort.ahead w m) B.b 0 Fl) os).heap[k]? =(w.setRow B.b (Go.Sort.putCells (fun v:Value=>v) 0 Fl cur)).heap[k]? :=fun k hk=>by
  have CH:k<w.heap.size:=by simpa using hk
  rw[heap_grow_old _ _ (by rw[Rp];exact CH)]
  simp only[Go.Sort.putRow,Go.Sort.mapBlock,heap_ahead,Array.getElem?_modify]
  by_cases Ul:B.b=k
  ·subst Ul
   rw[setRow_heap w B.b cur _ T _ hblk,if_pos rfl,hblk];rfl
  ·rw[if_neg Ul,setRow_other w B.b k _ (fun h=>Ul h.symm)]
 have lR:(w.setRow B.b (Go.Sort.putCells (fun v:Value=>v) 0 Fl cur)).heap.size<=(Go.Sort.grow (Go.Sort.putRow (fun v:Value=>v) (Go.Sort.ahead w m) B.b 0 Fl) os).heap.size:=by
  rw[size_grow,Rp];simp
 have S2:=S1.stay (D':=D) (ι':=ι) MX lR (fun _ h=>h) (fun b hb=>Nat.lt_of_lt_of_le (S1.dead b hb) lR) (fun _ h=>.inl h) (fun _ _ h=>h)
 have Ny:=sr.trans (Step.stay (D':=D) (ι':=ι) S1 MX lR (by simp[Go.Sort.grow,Go.Sort.putRow,Go.Sort.mapBlock,Go.Sort.ahead]) (by simp[Go.Sort.grow,Go.Sort.putRow,Go.Sort.mapBlock,Go.Sort.ahead]) (by simp[Go.Sort.grow,Go.Sort.putRow,Go.Sort.mapBlock,Go.Sort.ahead]) (fun _ h=>h) (fun _ h=>.inl h) (fun _ _ h=>h))
 refine⟨.gy [],br σ.get id ⟨true,3,d'.toList.map aa⟩,σ.next,D,ι,_,rfl,⟨rfl,fun x hx=>by simp[br,hx],d'.toList,by simp[br],P9,hP,fun i j zF hj=>?_⟩,Ny,S2,U,Nat.le_refl _,.gy [] #[] (fun _=>Go.undef) rfl (fun j hj=>by simp at hj) (fun j a h=>by simp at h)⟩
 have h:=hsort i j (Nat.zero_le _) zF (by omega)
 rw[uo]at h
 have e1:d'[j]! =aD d'.toList j:=by rw[ei hj,getElem!_pos d' j (by simpa using hj)];rfl
 have hi:i<d'.toList.length:=by omega
 have e2:d'[i]! =aD d'.toList i:=by rw[ei hi,getElem!_pos d' i (by simpa using hi)];rfl
 rw[<-e1,<-e2];exact h
theorem Nu {w w':World} (h:Grown w w') (os:Array Obj):Grown w (Go.Sort.grow w' os):=by
 obtain⟨q,os0,rfl⟩:=h
 exact⟨q,os0++os,by rw[grow_grow]⟩
theorem K6 (w:World) (a b:ab):Calls Tryz.prog 186 #[.agg #[.int .i64 a.aC.eT,.int .i64 a.aC.eO,.int .i64 a.aQ],.agg #[.int .i64 b.aC.eT,.int .i64 b.aC.eO,.int .i64 b.aQ]] w fun e w'=>e=.returned (.int .i64 (FX a b))/\Grown w w':=by
 go_enter Tryz.func186,Tryz.ntmps186
 go_wp2_with (first|(go_at_call 154;refine(tZ _ a.aC b.aC).mono ?_;rintro e w' ⟨rfl,hG⟩))
 obtain⟨q,os,rfl⟩:=hG
 go_ret
 refine⟨rfl,Nu (Grown.dN ?_ q) os⟩
 repeat(first|(with_reducible exact Grown.refl _)|(refine Grown.alloc ?_ _)|(refine Grown.drew ?_)|(refine Grown.dN ?_ _))
theorem Va:SWO (ltOf FX) where
 irrefl x:=by rw[uo];exact iF
 trans x y z h1 h2:=by rw[uo]at *;exact il h1 h2
 ntrans x y z h1 h2:=by rw[uo]at *;rw[pB]at *;omega
theorem Pf:HR:=fun xo off cap d w hH hblk ft=>by
 have eg:∀args w,(callFunc 186 args).run Tryz.prog w=.ok (.enter 186 args) w:=enters_of Tryz.func186 (by kernel_rfl) rfl
 have h:=AnyQ.slices_SortFunc Tryz.J3 3 Tryz.isAgg171 Tryz.sizeOf171 eV (fun _=>rfl) (fun x v hv=>by simp[eV]at hv;rcases hv with rfl|rfl|rfl<;>rfl) FX Va 186 #[] xo off cap d w eg (fun m os dk _ x y=>(K6 _ x y).mono fun _ _ ⟨he,q,os',hw⟩=>⟨he,q,os',hw⟩) hH hblk ft
 exact h
theorem Pg:HS:=fun p cap fv w=>AnyF.slices_SortFunc_none Tryz.J3 p cap fv w
end Go.Proofs.YtgoljkjaameagaaGreat.V

namespace Go.Proofs.YtgoljkjaameagaaGreat.V
open Go.RowKit
attribute [local irreducible] dE wpOps fS Call
attribute [local go_sem] aH fq eG fH fG cX upd bZ K.av cD AV.cells AV.cell rowOf rowsOf part ld rowAt br bP dn dR gK bx cQ eb fD eS di dW cN cL dH dI bD aW cF bB cH cG dU dX dV cE bG cP dS bz aI cJ cq gJ bj cz bE aT de aX dp AV.undef bq bt dL dQ dB dz cw ea ee cj dZ dY cI cK List.getD_cons_zero List.getD_cons_succ List.getD_nil List.all_cons List.all_nil Bool.and_true Bool.true_and Bool.and_self Bool.not_true Bool.not_false Option.map_some Option.map_none Option.bind_some Option.bind_none List.length_cons List.length_nil List.take_succ_cons List.take_zero List.take_nil List.drop_succ_cons List.drop_zero List.drop_nil List.head?_cons List.map_cons List.map_nil List.getElem?_cons_zero List.getElem?_cons_succ List.cons_append List.nil_append List.append_nil List.length_map List.set_cons_zero List.set_cons_succ Nat.reduceMul eq_self Int.toNat_natCast Int.natCast_nonneg and_self true_and and_true decide_true decide_false Bool.false_eq_true Nat.zero_add Nat.add_zero List.contains_cons List.contains_nil Bool.or_false Bool.false_or beq_self_eq_true Nat.reduceBEq ne_eq not_true_eq_false not_false_eq_true Id.mk.injEq false_and and_false Nat.reduceLT Int.reduceLE Int.reduceLT Int.reduceToNat Int.reduceNeg Int.reduceAdd Nat.le_refl List.length_append beq_true beq_false Bool.not_eq_eq_eq_not or_false false_or dD ah aq aF aY bp bK aP bc aN aV cC bF
theorem RP {σ:aw} {c T O:Id} {s:ax} {ts:List ab} (h:l6 σ.get σ.next c T O s ts) (hS:iA s.aJ) (hF:∀q,0<=fK ts q->eP s.aJ (fK ts q)=true) (p:au) (hp:Cb p=true) (t:Int) (ht:eP s.aJ t=true) (h0:dm ts p<0):
  Call Tryz.prog 100 [.ptr c 0 0,.agg (ae p),.int .i64 t] σ (fun r σ'=>r=.gy []/\l6 σ'.get σ'.next c T O s (ts++[⟨p,t⟩])/\σ.next<=σ'.next/\∀x:Id,x.bY<σ.next->x≠T->x≠O->σ'.get x=σ.get x):=by
 refine gY eH rfl fun j8=>?_
 clear j8
 obtain⟨hx,hy⟩:=s6 hp
 have jH:=lS.1 h0
 have Lj:∀q,0<=fK (ts++[⟨p,t⟩]) q->eP s.aJ (fK (ts++[⟨p,t⟩]) q)=true:=fun q hq=>by
  rw[zg q jH]at hq ⊢
  split at hq
  ·rename_i he;rw[if_pos he];exact ht
  ·rename_i he;rw[if_neg he];exact hF q hq
 obtain⟨rows,ho,hw⟩:=h.op
 obtain⟨fi,Gg⟩:=Ca hw p.eT p.eO
 have h1:=h.row
 have h2:=h.tl
 have v1:=dP h.cv
 have v2:=dP h.tv
 have v3:=dP h.ov
 have hm:=qK h0
 have cT:=eq_false h.cT
 have cO:=eq_false h.cO
 have TO:=eq_false h.TO
 have Tc:=eq_false (fun e:T=c=>h.cT e.symm)
 have Oc:=eq_false (fun e:O=c=>h.cO e.symm)
 have OT:=eq_false (fun e:O=T=>h.TO e.symm)
 (try((repeat(revert hN;revert N;apply Pn.out));refine wk (tw @h1 (tw @h2 (tw @ho (tw @v1 (tw @v2 (tw @v3 (tw @hm (tw @Gg (tw @cT (tw @cO (tw @TO (tw @Tc (tw @Oc (tw @OT @ae.eq_1)))))))))))))) ?_;(repeat(refine Pn.mk ?_;intro N hN))))
 have hG:∀x:Id,x.bY<σ.next->x≠T->x≠O->(br (br (br σ.get ⟨100000000,σ.next⟩ ⟨true,2,[[.int .i64 p.eT,.int .i64 p.eO]]⟩) T ⟨true,mP.pE,ts.map aa++[[.int .i64 p.eT,.int .i64 p.eO,.int .i64 t]]⟩) O ⟨true,mP.pE,dz rows fi⟩) x=σ.get x:=fun x OM UZ Na=>by
  have a1:=eq_false UZ
  have a2:=eq_false Na
  have a3:=dP OM
  simp only[go_sem, ↓reduceIte,Nat.reduceEqDiff,Nat.reduceAdd,Nat.reduceSub,Nat.reduceLeDiff,reduceCtorEq,a1,a2,a3]
 have hC:l6 (br (br (br σ.get ⟨100000000,σ.next⟩ ⟨true,2,[[.int .i64 p.eT,.int .i64 p.eO]]⟩) T ⟨true,mP.pE,ts.map aa++[[.int .i64 p.eT,.int .i64 p.eO,.int .i64 t]]⟩) O ⟨true,mP.pE,dz rows fi⟩) (σ.next+1+1+1+1) c T O s (ts++[⟨p,t⟩]):=
  ⟨(hG c h.cv h.cT h.cO).trans h1,by simp only[go_sem, ↓reduceIte,Nat.reduceEqDiff,Nat.reduceAdd,Nat.reduceSub,Nat.reduceLeDiff,reduceCtorEq,TO];rw[List.map_append];rfl,⟨_,sd @Nat.zero_add,JI hw fi⟩,by have:=h.cv;omega,by have:=h.tv;omega,by have:=h.ov;omega,h.cT,h.cO,h.TO⟩
 refine .inr (bf _ _ _ _ _ (fun r σ1 hq=>?_) (rO (σ:=⟨_,σ.next+1+1+1+1⟩) hC.xe hC.cO hC.TO hC.op hS Lj p hx hy))
 obtain⟨g1,x1⟩:=σ1
 obtain⟨rfl,hL⟩:=hq
 (try dsimp only at hL)
 have Iz:=hC.look (σ:=⟨_,σ.next+1+1+1+1⟩) hL
 have hn:=hL.1
 have hf:=hL.2.1
 (try dsimp only at hn hf)
 refine hN _ _ ?_
 clear hN N
 (try((repeat(revert hN;revert N;apply Pn.out));refine wk @Nat.zero_add ?_;(repeat(refine Pn.mk ?_;intro N hN))))
 exact gV (.inr rfl) (vs:=[]) rfl ⟨rfl,Iz.frame (by(try dsimp only);omega) fun _ _=>rfl,by(try dsimp only);omega,fun x OM UZ Na=>(hf x (by omega) Na).trans (hG x OM UZ Na)⟩
end Go.Proofs.YtgoljkjaameagaaGreat.V

namespace Go.Proofs.YtgoljkjaameagaaGreat.V
open Go.RowKit
def Ci (m:MK) (it nx ok en:Nat) (id:Id) (B:(Ex->Env->aw->Prop)->Env->aw->Prop) (b b1:Nat) (Q:Ex->Env->aw->Prop):Nat->List (List AV)->Env->aw->Prop
 |0,_,env,σ=>env it=.ptr id 0 0/\Q .normal (upd (upd env (some nx) (.gy [.bool false])) (some ok) (.bool false)) ⟨σ.get,σ.next+1⟩
 |n+1,left,env,σ=>env it=.ptr id 0 0/\∀i cs kv vv,left[i]? =some cs->part m.ka m.ks cs=some kv->cs[m.ks]? =some vv->
   B (aX b1 (de (Ci m it nx ok en id B b b1 Q n (left.eraseIdx i)) (aX b Q))) (upd (upd (upd env (some nx) (.gy [.bool true,kv,vv])) (some ok) (.bool true)) (some en) (.gy [kv,vv])) ⟨σ.get,σ.next+1⟩
def G4 (m:MK) (tm:O) (site it nx ok en:Nat) (B:(Ex->Env->aw->Prop)->Env->aw->Prop) (b b1:Nat) (Q:Ex->Env->aw->Prop) (env:Env) (σ:aw):Prop:=
 ∃id r,cX env tm=.map id m/\σ.get id=some r/\r.w=true/\Ci m it nx ok en ⟨site,σ.next⟩ B b b1 Q r.rows.length r.rows (upd env (some it) (.ptr ⟨site,σ.next⟩ 0 0)) ⟨br σ.get id {r with w:=false},σ.next+1⟩
variable {P:Program} {w w':World} {D D':Nat->Prop} {ι ι':Names} {hs:Nat} {g:Rows}
theorem jD.Di (hc:∀b x,D b->w'.cell? ⟨b,x,none⟩=w.cell? ⟨b,x,none⟩) {a:AV} {v:Value} (h:jD P w D a v):jD P w' D a v:=by
 induction h with
 |int k n=>exact .int k n
 |bool b=>exact .bool b
 |str s=>exact .str s
 |cm=>exact .cm
 |gT=>exact .gT
 |jd=>exact .jd
 |jl=>exact .jl
 |AL a c h=>exact .AL a c h
 |sl rows b o n c sz vs h1 h2 h3 h4 h5 h5' h6 _ ih=>exact .sl rows b o n c sz vs h1 h2 h3 h4 h5 h5' (fun i j hi hj=>(hc b _ h4).trans (h6 i j hi hj)) ih
 |cR cs b o vs h1 N0 h2 _ ih=>exact .cR cs b o vs h1 N0 (fun j hj=>(hc b _ h1).trans (h2 j hj)) ih
 |agg cs vs f h1 h2 h3 _ ih=>exact .agg cs vs f h1 h2 h3 ih
 |fn f da vs g h1 h2 h3 _ ih=>exact .fn f da vs g h1 h2 h3 ih
theorem cW.Di (hc:∀b x,D b->w'.cell? ⟨b,x,none⟩=w.cell? ⟨b,x,none⟩) {a:AV} {v:Value} (h:cW P w D ι a v):cW P w' D ι a v:=by
 induction h with
 |eQ a v h=>exact .eQ a v (h.Di hc)
 |map id m B h1 h2=>exact .map id m B h1 h2
 |rl id c B h1 h2=>exact .rl id c B h1 h2
 |own id off len o cap B h1 h2 h3 h4 h5 h6=>exact .own id off len o cap B h1 h2 h3 h4 h5 h6
 |ptr id i off B h1 h2=>exact .ptr id i off B h1 h2
 |agg cs vs f h1 h2 h3 _ ih=>exact .agg cs vs f h1 h2 h3 ih
 |gy cs vs f h1 h2 _ ih=>exact .gy cs vs f h1 h2 ih
 |fn f da vs g h1 h2 h3 _ ih=>exact .fn f da vs g h1 h2 h3 ih
 |tN f da vs g h1 h2 h3 _ ih=>exact .tN f da vs g h1 h2 h3 ih
def mY (w:World) (rr:Nat):Prop:=∃m s seen c,w.heap[rr]? =some (.mapIter m s seen c)
theorem mY.cell {rr:Nat} (h:mY w rr) (x:Nat):w.cell? ⟨rr,x,none⟩=none:=by
 obtain⟨m,s,seen,c,h⟩:=h
 simp[World.cell?,h]
theorem gO.JA {B:si} {r:Row} (R:gO P w D ι B r):¬mY w B.b:=by
 rintro⟨m,s,seen,c,h⟩
 cases hk:B.k with
 |none=>obtain⟨c',T,h3,_⟩:=(R.row hk).xo;rw[h]at h3;cases h3
 |some k=>
  cases k with
  |map m=>obtain⟨_,es,c',h3,_⟩:=R.map m hk;rw[h]at h3;cases h3
  |chan c=>obtain⟨_,buf,s',q,h3,_⟩:=R.chan c hk;rw[h]at h3;cases h3
theorem yz {rr:Nat} (h:mY w rr) (h':mY w' rr) (ho:∀b,b≠rr->w'.heap[b]? =w.heap[b]?):(∀{a v},cW P w D ι a v->cW P w' D ι a v):=fun hr=>hr.Di fun b x _=>by
 by_cases hb:b=rr
 ·subst hb;rw[h.cell,h'.cell]
 ·exact World.cell?_of_block (ho b hb)
theorem gw.iter {rr:Nat} (S:gw P hs D ι g w) (h:mY w rr) (h':mY w' rr) (ho:∀b,b≠rr->w'.heap[b]? =w.heap[b]?) (hz:w'.heap.size=w.heap.size):gw P hs D ι g w':=
 ⟨by rw[hz];exact S.lo,fun b hb=>by rw[hz];exact S.dead b hb,fun id r hg=>by
  obtain⟨B,hB,R,k1,k2⟩:=S.row id r hg
  exact⟨B,hB,R.frame (ho _ fun e=>R.JA (e▸h)) fun a v hr=>yz h h' ho hr,k1,k2⟩,S.inj⟩
theorem mQ {ops:Array Oper} {Q:Exit->Act->World->Prop} {a:Act} {o:Oper} {l:List Oper} {v:Value} (hg:o.guard=none) (gi:(execOp a.eval o).run P w=.ok (.value v) w') (h:wpList P ops Q l (a.put o.dst v) w'):wpList P ops Q (o::l) a w:=by
 unfold wpList
 rw[if_pos (by simp[Region.wanted,hg])]
 exact .inl (by unfold Oper.wp;rw[gi];exact h)
theorem JR {x y:AV} {u v:Value} (h1:cW P w D ι x u) (h2:cW P w D ι y v):cW P w D ι (.gy [x,y]) (.tuple #[u,v]):=
 .gy _ _ (fun j=>if j=0 then u else v) rfl (fun j hj=>by match j,hj with|0,_=>rfl|1,_=>rfl|j+2,hj=>simp at hj;omega) (fun j a ha=>by match j,ha with|0,ha=>simp at ha;subst ha;exact h1|1,ha=>simp at ha;subst ha;exact h2|j+2,ha=>simp at ha)
theorem JS {x y z:AV} {u v t:Value} (h1:cW P w D ι x u) (h2:cW P w D ι y v) (h3:cW P w D ι z t):cW P w D ι (.gy [x,y,z]) (.tuple #[u,v,t]):=
 .gy _ _ (fun j=>if j=0 then u else if j=1 then v else t) rfl (fun j hj=>by match j,hj with|0,_=>rfl|1,_=>rfl|2,_=>rfl|j+3,hj=>simp at hj;omega) (fun j a ha=>by match j,ha with|0,ha=>simp at ha;subst ha;exact h1|1,ha=>simp at ha;subst ha;exact h2|2,ha=>simp at ha;subst ha;exact h3|j+3,ha=>simp at ha)
theorem JQ {x:AV} {u:Value} (h1:cW P w D ι x u):cW P w D ι (.gy [x]) (.tuple #[u]):=
 .gy _ _ (fun _=>u) rfl (fun j hj=>by match j,hj with|0,_=>rfl|j+1,hj=>simp at hj) (fun j a ha=>by match j,ha with|0,ha=>simp at ha;subst ha;exact h1|j+1,ha=>simp at ha)
structure ME (P:Program) (w:World) (D:Nat->Prop) (ι:Names) (m:MK) (L:List MapEntry) (left:List (List AV)):Prop where
 len:left.length=L.length
 at_:∀(i:Nat) (cs:List AV),left[i]? =some cs->∃(e:MapEntry) (kv vv:AV),L[i]? =some e/\part m.ka m.ks cs=some kv/\cs[m.ks]? =some vv/\cW P w D ι kv e.key/\cW P w D ι vv e.val
theorem ME.rep {m:MK} {L:List MapEntry} {left:List (List AV)} (h:ME P w D ι m L left) (hr:∀{a v},cW P w D ι a v->cW P w' D' ι' a v):ME P w' D' ι' m L left:=⟨h.len,fun i cs hi=>by
 obtain⟨e,kv,vv,h1,h2,h3,h4,h5⟩:=h.at_ i cs hi
 exact⟨e,kv,vv,h1,h2,h3,hr h4,hr h5⟩⟩
theorem nj {α β:Type} {l:List α} {k:List β} {i j:Nat} {x:α} (hl:l.length=k.length) (h:(l.eraseIdx i)[j]? =some x):∃q:Nat,l[q]? =some x/\(k.eraseIdx i)[j]? =k[q]? :=by
 rw[List.getElem?_eraseIdx]at h
 split at h
 ·rename_i hj;exact⟨j,h,by rw[List.getElem?_eraseIdx,if_pos hj]⟩
 ·rename_i hj;exact⟨j+1,h,by rw[List.getElem?_eraseIdx,if_neg hj]⟩
theorem ME.erase {m:MK} {L:List MapEntry} {left:List (List AV)} (h:ME P w D ι m L left) {i:Nat} (hi:i<L.length):ME P w D ι m (L.eraseIdx i) (left.eraseIdx i):=⟨by
 rw[List.length_eraseIdx,List.length_eraseIdx,h.len],fun j cs hj=>by
 obtain⟨q,hq,he⟩:=nj h.len hj
 obtain⟨e,kv,vv,h1,h2⟩:=h.at_ q cs hq
 exact⟨e,kv,vv,he.trans h1,h2⟩⟩
theorem nG:∀{l:List MapEntry} {i:Nat} {e:MapEntry},(l.map (·.born)).Nodup->l[i]? =some e->l.filter (fun x=>x.born !=e.born)=l.eraseIdx i
 |x::l,0,e,hn,h=>by
  simp at h;subst h
  obtain⟨h1,h2⟩:=List.nodup_cons.1 (show(x.born::l.map (·.born)).Nodup from hn)
  rw[List.filter_cons,if_neg (by simp),List.eraseIdx_cons_zero]
  refine List.filter_eq_self.2 fun y hy=>?_
  have:y.born≠x.born:=fun hc=>h1 (by rw[<-hc];exact List.mem_map_of_mem hy)
  simpa using this
 |x::l,i+1,e,hn,h=>by
  obtain⟨h1,h2⟩:=List.nodup_cons.1 (show(x.born::l.map (·.born)).Nodup from hn)
  simp only[List.getElem?_cons_succ]at h
  have hx:x.born≠e.born:=fun hc=>h1 (by rw[hc];exact List.mem_map_of_mem (List.mem_of_getElem? h))
  rw[List.filter_cons,if_pos (by simpa using hx),List.eraseIdx_cons_succ,nG h2 h]
theorem DT {es:Array MapEntry} {clock:Nat} {seen:Array Nat} {i:Nat} {e:MapEntry} (hs:KZ es clock) (h:(leftOf es seen).toList[i]? =some e):(leftOf es (seen.push e.born)).toList=(leftOf es seen).toList.eraseIdx i:=by
 have hn:((leftOf es seen).toList.map (·.born)).Nodup:=by
  unfold leftOf
  rw[Array.toList_filter]
  exact((List.filter_sublist (p:=fun e=> !seen.contains e.born) (l:=es.toList)).map MapEntry.born).nodup hs.2
 rw[<-nG hn h]
 unfold leftOf
 rw[Array.toList_filter,Array.toList_filter,List.filter_filter]
 refine List.filter_congr fun x _=>?_
 rw[contains_push]
 cases seen.contains x.born<;>cases hb:(x.born==e.born)<;>simp_all
theorem eval_put {a:Act} {d:Nat} {v:Value} (h:d<a.tmps.size):(a.put (some d) v).eval (.tmp d)=v:=by
 simp[Act.put,Act.eval,h]
def JW (ix ie b b1 ok:Nat) (DY GR DX:Oper) (rU:List Oper) (nF:Code):Code:=
 .seq (.region ix #[DY,GR] false) (.seq (.cond (.tmp ok) .skip (.exit b)) (.block b1 (.seq (.region ie (DX::rU).toArray false) nF)))
structure HQ (P:Program) (md:List (Nat×Nat)) (nt fid s0 it nx ok en:Nat) (DY GR DX:Oper) (rU:List Oper) (nF:Code) (vE:List bh) (se:VC):Prop where
 h1:DY.op=.next (.tmp it) false
 h2:DY.dst=some nx
 h3:DY.guard=none
 h4:GR.op=.extract (.tmp nx) 0
 h5:GR.dst=some ok
 h6:GR.guard=none
 h7:DX.op=.entry (.tmp it)
 h8:DX.dst=some en
 h9:DX.guard=none
 Qj:nx<nt
 Qk:ok<nt
 U8:en<nt
 ne1:it≠nx
 ne2:it≠ok
 hE:allM (kP P (DX::rU).toArray nt s0 false false #[] []) rU 1=some vE
 hR:jr P md nt fid nF=some se
theorem Ef (hm:P.follows .mixedOrders=true) {md:List (Nat×Nat)} {nt fid s0 ix ie b b1 it nx ok en:Nat} {m:MK} {id:Id} {DY GR DX:Oper} {rU:List Oper} {nF:Code} {vE:List bh} {se:VC}
  (O:HQ P md nt fid s0 it nx ok en DY GR DX rU nF vE se) {rr bm:Nat} {es:Array MapEntry} {clock:Nat} (Gn:KZ es clock) {ds:List Deferred} {n0:Nat} {D0:Nat->Prop} {ι0:Names} {w0:World} {Q:Ex->Env->aw->Prop} {Q':Exit->Act->World->Prop}
  (hQ:tp P hs nt ds Q n0 D0 ι0 w0 Q') (hD0:¬D0 rr) (hrr:hs<=rr) (ik:bm≠rr):
  ∀(n:Nat) (left:List (List AV)) (env:Env) (σ:aw) (a:Act) (w:World) (D:Nat->Prop) (ι:Names) (seen:Array Nat),
   Ci m it nx ok en id (dE (Sound P) (.seq (.eD false vE) se)) b b1 Q n left env σ->St P hs nt D ι env σ a w->a.defers=ds->n0<=σ.next->Step hs D0 ι0 w0 D ι w->
   (∃sz C,ι id=some ⟨rr,sz,C,none⟩)->D rr->D bm->w.heap[rr]? =some (.mapIter (some bm) clock seen clock)->w.heap[bm]? =some (.map es clock)->left.length=n->ME P w D ι m (leftOf es seen).toList left->
   pC P (JW ix ie b b1 ok DY GR DX rU nF) (Exit.inBlock b Q') (n+1) a w:=by
 intro n
 induction n with
 |zero=>
  intro left env σ a w D ι seen hv dK hd HB T hid TF TE hr hb hlen hL
  obtain⟨Ls,hq⟩:=hv
  have ha:a.tmps.getD it undef=.pointer (some ⟨rr,0,none⟩):=by
   have:=dK.env it
   rw[Ls]at this
   obtain⟨B,e,hB,_⟩:=iH this
   obtain⟨sz,C,hid⟩:=hid
   rw[hid]at hB;injection hB with hB;subst hB
   simpa using e
  have Sz:a.eval (.tmp it)=.pointer (some ⟨rr,0,none⟩):=ha
  rcases run_next_at (P:=P) w DY.type rr bm clock clock seen es clock hr hb Gn.1 (Nat.le_refl _)with⟨_,gi⟩|⟨e,he,_⟩
  rotate_left
  ·have h0:(leftOf es seen).toList=[]:=List.eq_nil_of_length_eq_zero (by rw[<-hL.len,hlen])
   rw[h0]at he;simp at he
  have Ff:nx<a.tmps.size:=by rw[dK.size];exact O.Qj
  have E2:=iD (iD dK.env (JQ (.eQ _ _ (.bool false))) (dst:=some nx) (fun d h=>by cases h;exact O.Qj) dK.size) (.eQ _ _ (.bool false)) (dst:=some ok) (fun d h=>by cases h;exact O.Qk) (by rw[eW];exact dK.size)
  show AE P (.seq _ _) _ a w
  refine lW (ko (wp_region_list ?_))
  refine mQ (v:=.tuple #[.bool false]) (w':=w) O.h3 (by simp[execOp,O.h1,Sz,gi,Result.andThen]) ?_
  refine mQ (v:=.bool false) (w':=w) O.h6 (by rw[O.h2];simp[execOp,O.h4,eval_put Ff,Instr.extract]) ?_
  rw[O.h2,O.h5]
  refine lW (wu (t:=false) (eval_put (by rw[eW,dK.size];exact O.Qk)) (ko (wp_exit ?_)))
  show Exit.inBlock b Q' (.exit b) _ _
  simp only[Exit.inBlock,if_true]
  exact hQ .normal _ ⟨σ.get,σ.next+1⟩ _ w D ι hq T ⟨dK.s9,dK.used.next,E2,by rw[eW,eW];exact dK.size⟩ (by rw[put_defers,put_defers];exact hd) (Nat.le_succ_of_le HB)
 |succ n ih=>
  intro left env σ a w D ι seen hv dK hd HB T hid TF TE hr hb hlen hL
  obtain⟨Ls,hq⟩:=hv
  have ha:a.tmps.getD it undef=.pointer (some ⟨rr,0,none⟩):=by
   have:=dK.env it
   rw[Ls]at this
   obtain⟨B,e,hB,_⟩:=iH this
   obtain⟨sz,C,hid⟩:=hid
   rw[hid]at hB;injection hB with hB;subst hB
   simpa using e
  have Sz:a.eval (.tmp it)=.pointer (some ⟨rr,0,none⟩):=ha
  rcases run_next_at (P:=P) w DY.type rr bm clock clock seen es clock hr hb Gn.1 (Nat.le_refl _)with⟨h0,_⟩|⟨e,he,w1,mW,gi⟩
  ·have:=hL.len
   rw[hlen,Array.length_toList]at this;omega
  obtain⟨i,hi,CG⟩:=List.getElem_of_mem he
  have Q9:(leftOf es seen).toList[i]? =some e:=by rw[List.getElem?_eq_getElem hi,CG]
  have lO:i<left.length:=by rw[hL.len];exact hi
  obtain⟨e',kv,vv,q1,q2,q3,q4,q5⟩:=hL.at_ i left[i] (List.getElem?_eq_getElem lO)
  rw[Q9]at q1;injection q1 with q1;subst q1
  replace hq:=hq i left[i] kv vv (List.getElem?_eq_getElem lO) q2 q3
  have UO:w1.heap[rr]? =some (.mapIter (some bm) clock seen clock):=by rcases mW with rfl|rfl<;>exact hr
  have fh:=MapKept.heap_set (o':=.mapIter (some bm) clock (seen.push e.born) clock) UO
  obtain⟨w2,vY⟩:∃w2,ChangeMaps.setBlock w1 rr (.mapIter (some bm) clock (seen.push e.born) clock)=w2:=⟨_,rfl⟩
  have ho:∀k,k≠rr->w2.heap[k]? =w.heap[k]? :=fun k hk=>by
   rw[<-vY]
   refine(fh.2 k hk).trans ?_
   rcases mW with rfl|rfl<;>rfl
  have hz:w2.heap.size=w.heap.size:=by
   rw[<-vY]
   rcases mW with rfl|rfl<;>simp[ChangeMaps.setBlock]
  have IZ:w2.heap[rr]? =some (.mapIter (some bm) clock (seen.push e.born) clock):=by rw[<-vY];exact fh.1
  have xC:w2.os=w.os/\w2.tape=w.tape/\w2.output=w.output:=by
   rw[<-vY]
   rcases mW with rfl|rfl<;>exact⟨rfl,rfl,rfl⟩
  rw[vY]at gi
  clear vY fh
  have I1:mY w rr:=⟨_,_,_,_,hr⟩
  have I2:mY w2 rr:=⟨_,_,_,_,IZ⟩
  have rt:∀{a v},cW P w D ι a v->cW P w2 D ι a v:=yz I1 I2 ho
  have S2:=dK.s9.iter I1 I2 ho hz
  have T2:Step hs D0 ι0 w0 D ι w2:=⟨⟨xC.1.trans T.below.os,xC.2.1.trans T.below.tape,xC.2.2.trans T.below.output,by rw[hz];exact T.below.size,fun k hk=>(ho k (by omega)).trans (T.below.block k hk)⟩,fun k hk=>(ho k (fun hc=>hD0 (hc▸hk))).trans (T.oO k hk),T.dead,T.names,T.new⟩
  have Gd:w2.heap[bm]? =some (.map es clock):=(ho bm ik).trans hb
  have Ff:nx<a.tmps.size:=by rw[dK.size];exact O.Qj
  have E1:ck P w2 D ι env a:=fun t=>rt (dK.env t)
  have E2:=iD (iD E1 (JS (.eQ _ _ (.bool true)) (rt q4) (rt q5)) (dst:=some nx) (fun d h=>by cases h;exact O.Qj) dK.size) (.eQ _ _ (.bool true)) (dst:=some ok) (fun d h=>by cases h;exact O.Qk) (by rw[eW];exact dK.size)
  have E3:=iD E2 (JR (rt q4) (rt q5)) (dst:=some en) (fun d h=>by cases h;exact O.U8) (by rw[eW,eW];exact dK.size)
  have MU:=run_entry_at (P:=P) w2 rr bm clock seen es clock e IZ Gd (mem_left he).1 Gn.2
  show AE P (.seq _ _) _ a w
  refine lW (ko (wp_region_list ?_))
  refine mQ (v:=.tuple #[.bool true,e.key,e.val]) (w':=w2) O.h3 (by simp[execOp,O.h1,Sz,gi,Result.andThen]) ?_
  refine mQ (v:=.bool true) (w':=w2) O.h6 (by rw[O.h2];simp[execOp,O.h4,eval_put Ff,Instr.extract]) ?_
  rw[O.h2,O.h5]
  refine lW (wu (t:=true) (eval_put (by rw[eW,dK.size];exact O.Qk)) (ko (wp_skip ?_)))
  refine sY (lW (ko (wp_region_list ?_)))
  show wpList P _ _ (DX::rU) _ _
  have ha3:(((a.put (some nx) (.tuple #[.bool true,e.key,e.val])).put (some ok) (.bool true)).eval (.tmp it))=.pointer (some ⟨rr,0,none⟩):=by
   have n1:=O.ne1
   have n2:=O.ne2
   rw[<-Sz]
   simp[Act.put,Act.eval,Array.getD_eq_getD_getElem?,Array.getElem?_setIfInBounds,Ne.symm n1,Ne.symm n2]
  refine mQ (v:=.tuple #[e.key,e.val]) (w':=w2) O.h9 (by simp[execOp,O.h7,ha3,MU,Result.andThen]) ?_
  rw[O.h8]
  refine yM rU vE 1 _ ⟨σ.get,σ.next+1⟩ _ w2 D ι (fun _=>False) O.hE hq S2 dK.used.next (fun _ h=>h.elim) E3 (by rw[eW,eW,eW];exact dK.size) fun Tw σ3 a3 w3 D3 ι3 hk T3 St3 QX Uo=>?_
  refine qn hm nF se O.hR _ Tw σ3 a3 w3 D3 ι3 _ hk St3 fun ex Im σ4 a4 w4 D4 ι4 IX T4 Tm QY Up=>?_
  have T7:a4.defers=ds:=by rw[QY,QX,put_defers,put_defers,put_defers];exact hd
  have UB:n0<=σ4.next:=Nat.le_trans HB (Nat.le_trans (Nat.le_succ _) (Nat.le_trans Uo Up))
  have Nz:=T3.trans T4
  have TT:=T2.trans Nz
  have tP:Ci m it nx ok en id (dE (Sound P) (.seq (.eD false vE) se)) b b1 Q n (left.eraseIdx i) Im σ4->pC P (JW ix ie b b1 ok DY GR DX rU nF) (Exit.inBlock b Q') (n+1) a4 w4:=fun hq5=>by
   refine ih (left.eraseIdx i) Im σ4 a4 w4 D4 ι4 (seen.push e.born) hq5 Tm T7 UB TT ?_ (Nz.dead _ TF) (Nz.dead _ TE) ((Nz.oO _ TF).trans IZ) ((Nz.oO _ TE).trans Gd) ?_ ?_
   ·obtain⟨sz,C,hid⟩:=hid;exact⟨sz,C,Nz.names _ _ hid⟩
   ·rw[List.length_eraseIdx,if_pos lO,hlen];rfl
   ·rw[DT Gn Q9]
    exact(hL.erase hi).rep fun hr=>Nz.rep (rt hr)
  have out:∀ex,ex≠.normal->Q ex Im σ4->Q' (Sk ex) a4 w4:=fun ex _ h=>hQ ex Im σ4 a4 w4 D4 ι4 h TT Tm T7 UB
  cases ex with
  |normal=>exact tP IX
  |ret=>exact out .ret (by simp) IX
  |exit j0=>
   simp only[aX]at IX
   simp only[Sk,Exit.inBlock]
   by_cases h1:j0=b1
   ·rw[if_pos h1]at IX ⊢
    exact tP IX
   ·rw[if_neg h1]at IX ⊢
    simp only[de,aX]at IX
    show Exit.inBlock b Q' (.exit j0) a4 w4
    simp only[Exit.inBlock]
    by_cases h2:j0=b
    ·rw[if_pos h2]at IX ⊢
     exact hQ .normal Im σ4 a4 w4 D4 ι4 IX TT Tm T7 UB
    ·rw[if_neg h2]at IX ⊢
     exact out (.exit j0) (by simp) IX
def CS (P:Program) (nt:Nat) (c:Code) (W:(Ex->Env->aw->Prop)->Env->aw->Prop):Prop:=
 ∀(hs:Nat) (Q:Ex->Env->aw->Prop) (env:Env) (σ:aw) (a:Act) (w:World) (D:Nat->Prop) (ι:Names) (Q':Exit->Act->World->Prop),W Q env σ->St P hs nt D ι env σ a w->tp P hs nt a.defers Q σ.next D ι w Q'->AE P c Q' a w
theorem CS.code (hm:P.follows .mixedOrders=true) {md:List (Nat×Nat)} {nt fid:Nat} {c:Code} {vc:VC} (h:jr P md nt fid c=some vc):CS P nt c (dE (Sound P) vc):=
 fun _ Q env σ a w D ι Q' hv dK hQ=>qn hm c vc h Q env σ a w D ι Q' hv dK hQ
theorem CS.seq {nt:Nat} {x y:Code} {V W:(Ex->Env->aw->Prop)->Env->aw->Prop} (h:CS P nt x V) (k:CS P nt y W):CS P nt (.seq x y) (fun Q=>V (de (W Q) Q)):=fun hs Q env σ a w D ι Q' hv dK hQ=>by
 refine lW (h hs _ env σ a w D ι _ hv dK fun ex ji σ1 a1 w1 D1 ι1 hq T kb hd hle=>?_)
 cases ex with
 |normal=>exact k hs Q ji σ1 a1 w1 D1 ι1 Q' hq kb (by rw[hd];exact hQ.later T hle)
 |exit id=>exact hQ (.exit id) ji σ1 a1 w1 D1 ι1 hq T kb hd hle
 |ret=>exact hQ .ret ji σ1 a1 w1 D1 ι1 hq T kb hd hle
theorem CS.rng (hm:P.follows .mixedOrders=true) {md:List (Nat×Nat)} {nt fid s0 sA site ia ix ie b b1 it nx ok en:Nat} {m:MK} {DY GR DX D6:Oper} {JL rU:List Oper} {nF:Code} {vA vE:List bh} {se:VC} {t k e:TypeId} {tm:Operand} {tm':O}
  (O:HQ P md nt fid s0 it nx ok en DY GR DX rU nF vE se) (h1:D6.op=.range t tm) (h2:D6.dst=some it) (h3:D6.guard=none) (dJ:it<nt) (ht:P.underlying t=some (.map k e)) (Rq:cO P tm=some tm') (hA:allM (kP P (JL++[D6]).toArray nt sA false false #[] []) JL 0=some vA):
  CS P nt (.seq (.region ia (JL++[D6]).toArray false) (.block b (.loop (JW ix ie b b1 ok DY GR DX rU nF))))
   (fun Q=>wpOps (Sound P) false vA (G4 m tm' site it nx ok en (dE (Sound P) (.seq (.eD false vE) se)) b b1 Q)):=fun hs Q env σ a w D ι Q' hv dK hQ=>by
 refine lW (ko (wp_region_list ?_))
 show wpList P _ _ (JL++[D6]) a w
 refine wv [D6] JL vA 0 env σ a w D ι (fun _=>False) hA hv dK.s9 dK.used (fun _ h=>h.elim) dK.env dK.size fun ji σ1 a1 w1 D1 ι1 hk T sr uz Gh=>?_
 obtain⟨id,r,hid,hg,hw,hr⟩:=hk
 have gN:=dj sr.env Rq
 rw[hid]at gN
 obtain⟨B,hv,hB,hk⟩:=Fw gN
 obtain⟨B',dF,R,jZ,pr⟩:=sr.s9.row id r hg
 rw[hB]at dF;injection dF with dF;subst dF
 obtain⟨hrsz,es,clock,hb,ft,⟨hlen,Gn⟩,hM⟩:=R.map m hk
 have Sn:=R.lt
 have gi:=run_range_map (P:=P) w1 t k e B.b es clock ht hb
 refine mQ (v:=.pointer (some ⟨w1.heap.size,0,none⟩)) (w':=w1.alloc (.mapIter (some B.b) clock #[] clock)) h3 (by simp[execOp,h1,hv,gi,Result.andThen]) ?_
 rw[h2]
 obtain⟨w2,vY⟩:∃w2,w1.alloc (.mapIter (some B.b) clock #[] clock)=w2:=⟨_,rfl⟩
 have hblk:∀b,b<w1.heap.size->w2.heap[b]? =w1.heap[b]? :=fun b hb=>by rw[<-vY];exact Below.heap_alloc _ _ _ hb
 have km:w2.heap[w1.heap.size]? =some (.mapIter (some B.b) clock #[] clock):=by rw[<-vY];exact heap_alloc_new _ _
 have hz:w2.heap.size=w1.heap.size+1:=by rw[<-vY];simp
 have xC:w2.os=w1.os/\w2.tape=w1.tape/\w2.output=w1.output:=by rw[<-vY];exact⟨rfl,rfl,rfl⟩
 rw[vY]
 clear vY gi
 let D2:Nat->Prop:=fun x=>D1 x∨x=B.b∨x=w1.heap.size
 let ι2:Names:=kJ ι1 ⟨site,σ1.next⟩ ⟨w1.heap.size,1,0,none⟩
 have jm:ι1 ⟨site,σ1.next⟩=none:=fresh sr.used (fun h=>h)
 have SX:∀{a v},cW P w1 D1 ι1 a v->cW P w2 D2 ι2 a v:=fun h=>h.frame (fun b hd=>hblk b (sr.s9.dead b hd)) (fun _ h=>.inl h) (e6 jm)
 have yL:∀{j q C},σ1.get j=some q->ι2 j=some C->ι1 j=some C:=fun {j q C} hj hC=>by
  obtain⟨C',ue,_⟩:=sr.s9.row j q hj
  have:=e6 (B:=⟨w1.heap.size,1,0,none⟩) jm j C' ue
  have e:=this.symm.trans hC
  injection e with e;rw[<-e];exact ue
 have lt:∀{j q C},σ1.get j=some q->ι1 j=some C->C.b<w1.heap.size:=fun {j q C} hj hC=>by
  obtain⟨C',ue,R',_⟩:=sr.s9.row j q hj
  rw[hC]at ue;injection ue with ue;subst ue
  exact R'.lt
 have NY:∀{j q},br σ1.get id {r with w:=false} j=some q->∃q0,σ1.get j=some q0/\(q.w=true->q=q0/\j≠id)/\(j=id->q={r with w:=false}/\q0=r)/\(j≠id->q=q0):=fun {j q} h=>by
  unfold br at h
  split at h
  ·rename_i e
   injection h with h;subst h
   exact⟨r,e▸hg,fun h=>(by cases h),fun _=>⟨rfl,rfl⟩,fun hc=>absurd e hc⟩
  ·rename_i e
   exact⟨q,h,fun _=>⟨rfl,e⟩,fun hc=>absurd hc e,fun _=>rfl⟩
 have S2:gw P hs D2 ι2 (br σ1.get id {r with w:=false}) w2:=by
  refine⟨by rw[hz];exact Nat.le_succ_of_le sr.s9.lo,fun b hb=>?_,fun j q h=>?_,fun j j' q q' C C' h h' IY hC ue he=>?_⟩
  ·rw[hz]
   rcases hb with hb|rfl|rfl
   ·exact Nat.lt_succ_of_lt (sr.s9.dead b hb)
   ·exact Nat.lt_succ_of_lt Sn
   ·exact Nat.lt_succ_self _
  ·obtain⟨q0,M1,IY,zD,ik⟩:=NY h
   obtain⟨C,hC,RC,k1,k2⟩:=sr.s9.row j q0 M1
   have hCl:=lt M1 hC
   refine⟨C,e6 jm j C hC,?_,fun Qd=>k1 ((IY Qd).1▸Qd),fun Qd hD=>?_⟩
   ·have RF:gO P w2 D2 ι2 C q0:=RC.frame (hblk _ hCl) fun a v h=>SX h
    by_cases hj:j=id
    ·obtain⟨e1,e2⟩:=zD hj
     rw[e1,<-e2];exact RF.flag false
    ·rw[ik hj];exact RF
   ·obtain⟨e1,e2⟩:=IY Qd
    rcases hD with hD|hD|hD
    ·exact k2 (e1▸Qd) hD
    ·exact e2 (sr.s9.inj j id q0 r C B M1 hg (e1▸Qd) hC hB hD)
    ·omega
  ·obtain⟨q0,M1,UM,_⟩:=NY h
   obtain⟨q0',Rj,_⟩:=NY h'
   exact sr.s9.inj j j' q0 q0' C C' M1 Rj ((UM IY).1▸IY) (yL M1 hC) (yL Rj ue) he
 have T2:Step hs D1 ι1 w1 D2 ι2 w2:=⟨⟨xC.1,xC.2.1,xC.2.2,by omega,fun k hk=>hblk k (Nat.lt_of_lt_of_le hk sr.s9.lo)⟩,fun b hb=>hblk b (sr.s9.dead b hb),fun _ h=>.inl h,e6 jm,fun b hb=>by
  rcases hb with hb|rfl|rfl
  ·exact .inl hb
  ·exact .inr (jZ hw)
  ·exact .inr sr.s9.lo⟩
 have E2:ck P w2 D2 ι2 (upd ji (some it) (.ptr ⟨site,σ1.next⟩ 0 0)) (a1.put (some it) (.pointer (some ⟨w1.heap.size,0,none⟩))):=
  iD (fun t=>SX (sr.env t)) (by have:=cW.ptr (P:=P) (w:=w2) (D:=D2) (ι:=ι2) ⟨site,σ1.next⟩ 0 0 ⟨w1.heap.size,1,0,none⟩ (ep _ _ _) rfl;simpa using this) (fun d h=>by cases h;exact dJ) sr.size
 have L2:ME P w2 D2 ι2 m (leftOf es #[]).toList r.rows:=by
  have he:(leftOf es #[]).toList=es.toList:=by simp[leftOf]
  rw[he]
  refine⟨by simpa using ft.symm,fun i cs hi=>?_⟩
  obtain⟨QB,kv,vv,q1,q2,q3,q4,q5⟩:=hM i cs hi
  exact⟨QB,kv,vv,by simpa using q1,q2,q3,SX q4,SX q5⟩
 show AE P (.block b (.loop (JW ix ie b b1 ok DY GR DX rU nF))) Q' _ w2
 exact sY (B8 (r.rows.length+1) (Ef hm O Gn (ds:=a.defers) (n0:=σ.next) (D0:=D) (ι0:=ι) (w0:=w) hQ
  (fun hc=>by have:=dK.s9.dead _ hc;have:=T.below.size;omega) sr.s9.lo (by omega) r.rows.length r.rows _ ⟨br σ1.get id {r with w:=false},σ1.next+1⟩ _ w2 D2 ι2 #[] hr
  ⟨S2,sr.used.upd.next,E2,by rw[eW];exact sr.size⟩ (by rw[put_defers];exact uz) (Nat.le_succ_of_le Gh) (T.trans T2) ⟨1,0,ep _ _ _⟩ (.inr (.inr rfl)) (.inr (.inl rfl)) km ((hblk _ Sn).trans hb) rfl L2))
theorem CS.fn {f:Nat} {fn:Func} {c:Code} {args:List AV} {σ:aw} {K:AV->aw->Prop} {vr:List nL} {W:(Ex->Env->aw->Prop)->Env->aw->Prop} (P0:P.funcs[f]? =some fn) (hc:fn.body=some c) (hr:fn.results.toList.mapM (C7 P)=some vr) (ha:fn.params.size+fn.nfree=args.length) (hle:fn.params.size+fn.nfree<=fn.ntmps)
  (h:CS P fn.ntmps c W) (hv:W (kH vr K) (bZ args) σ):Call P f args σ K:=
 gQ (uY P0 hc hr ha hle fun hs w D ι a Q' dK hQ=>h hs (kH vr K) (bZ args) σ a w D ι Q' hv dK hQ)
theorem sg (hm:P.follows .mixedOrders=true) {c:VC} {Q Q':Ex->Env->aw->Prop} {env:Env} {σ:aw} (hQ:∀x e s,Q x e s->Q' x e s) (h:dE (Call P) c Q env σ):dE (Sound P) c Q' env σ:=
 jB (fun _ _ _ _ h=>gq hm h) kN c Q Q' env σ hQ h
theorem yV {m:MK} {it nx ok en:Nat} {id:Id} {B B':(Ex->Env->aw->Prop)->Env->aw->Prop} {b b1:Nat} {Q Q':Ex->Env->aw->Prop} (hB:∀R R' e s,(∀x e s,R x e s->R' x e s)->B R e s->B' R' e s) (hQ:∀x e s,Q x e s->Q' x e s):
  ∀(n:Nat) (left:List (List AV)) (env:Env) (σ:aw),Ci m it nx ok en id B b b1 Q n left env σ->Ci m it nx ok en id B' b b1 Q' n left env σ
 |0,_,env,σ,h=>⟨h.1,hQ _ _ _ h.2⟩
 |n+1,left,env,σ,h=>⟨h.1,fun i cs kv vv h1 h2 h3=>hB _ _ _ _ (fun x e s hx=>by
  have hn:=yV (id:=id) (m:=m) (it:=it) (nx:=nx) (ok:=ok) (en:=en) (b:=b) (b1:=b1) hB hQ n (left.eraseIdx i) e s
  cases x with
  |normal=>exact hn hx
  |ret=>exact hQ _ _ _ hx
  |exit j0=>
   simp only[aX]at hx ⊢
   split at hx
   ·rename_i h1;rw[if_pos h1];exact hn hx
   ·rename_i h1
    rw[if_neg h1]
    simp only[de,aX]at hx ⊢
    split at hx
    ·rename_i h2;rw[if_pos h2];exact hQ _ _ _ hx
    ·rename_i h2;rw[if_neg h2];exact hQ _ _ _ hx) (h.2 i cs kv vv h1 h2 h3)⟩
theorem G5 (hm:P.follows .mixedOrders=true) {m:MK} {tm:O} {site it nx ok en:Nat} {c:VC} {b b1:Nat} {Q Q':Ex->Env->aw->Prop} {env:Env} {σ:aw} (hQ:∀x e s,Q x e s->Q' x e s) (h:G4 m tm site it nx ok en (dE (Call P) c) b b1 Q env σ):G4 m tm site it nx ok en (dE (Sound P) c) b b1 Q' env σ:=by
 obtain⟨id,r,h1,h2,h3,h4⟩:=h
 exact⟨id,r,h1,h2,h3,yV (B':=dE (Sound P) c) (fun R R' e s hR hb=>sg hm hR hb) hQ _ _ _ _ h4⟩
theorem wC {α:Type}:∀{l:List α} {i:Nat} {x:α},l[i]? =some x->(x::l.eraseIdx i).Perm l
 |y::l,0,x,h=>by simp at h;subst h;exact List.Perm.refl _
 |y::l,i+1,x,h=>by
  simp only[List.getElem?_cons_succ]at h
  rw[List.eraseIdx_cons_succ]
  exact(List.Perm.swap _ _ _).trans ((wC h).cons _)
theorem R0 {m:MK} {tm:O} {site it nx ok en:Nat} {c:VC} {b b1:Nat} {Q:Ex->Env->aw->Prop} {env:Env} {σ:aw} {id:Id} {r:Row} (I:List (List AV)->Env->aw->Prop) (h1:cX env tm=.map id m) (h2:σ.get id=some r) (h3:r.w=true) (Ls:([nx,ok,en]++xR c).contains it=false)
  (h0:I [] (upd env (some it) (.ptr ⟨site,σ.next⟩ 0 0)) ⟨br σ.get id {r with w:=false},σ.next+1⟩)
  (step:∀pre cs rest e s kv vv,(pre++cs::rest).Perm r.rows->I pre e s->gF ([nx,ok,en]++xR c) (upd env (some it) (.ptr ⟨site,σ.next⟩ 0 0)) e->part m.ka m.ks cs=some kv->cs[m.ks]? =some vv->
   dE (Call P) c (aX b1 (de (I (pre++[cs])) (aX b Q))) (upd (upd (upd e (some nx) (.gy [.bool true,kv,vv])) (some ok) (.bool true)) (some en) (.gy [kv,vv])) ⟨s.get,s.next+1⟩)
  (fin:∀pre e s,pre.Perm r.rows->I pre e s->gF ([nx,ok,en]++xR c) (upd env (some it) (.ptr ⟨site,σ.next⟩ 0 0)) e->Q .normal (upd (upd e (some nx) (.gy [.bool false])) (some ok) (.bool false)) ⟨s.get,s.next+1⟩):
  G4 m tm site it nx ok en (dE (Call P) c) b b1 Q env σ:=by
 refine⟨id,r,h1,h2,h3,?_⟩
 have QZ:∀e,gF ([nx,ok,en]++xR c) (upd env (some it) (.ptr ⟨site,σ.next⟩ 0 0)) e->e it=.ptr ⟨site,σ.next⟩ 0 0:=fun e h=>by
  rw[h it Ls];simp[upd]
 have key:∀n left pre e s,(pre++left).Perm r.rows->left.length=n->I pre e s->gF ([nx,ok,en]++xR c) (upd env (some it) (.ptr ⟨site,σ.next⟩ 0 0)) e->Ci m it nx ok en ⟨site,σ.next⟩ (dE (Call P) c) b b1 Q n left e s:=by
  intro n
  induction n with
  |zero=>
   intro left pre e s hp hl hI hK
   have:left=[]:=List.eq_nil_of_length_eq_zero hl
   subst this
   rw[List.append_nil]at hp
   exact⟨QZ e hK,fin pre e s hp hI hK⟩
  |succ n ih=>
   intro left pre e s hp hl hI hK
   refine⟨QZ e hK,fun i cs kv vv hi hk hv=>?_⟩
   have lO:=(List.getElem?_eq_some_iff.1 hi).1
   have Fb:(cs::left.eraseIdx i).Perm left:=by
    exact wC hi
   have IT:(pre++cs::left.eraseIdx i).Perm r.rows:=(Fb.append_left pre).trans hp
   have Hy:gF ([nx,ok,en]++xR c) (upd env (some it) (.ptr ⟨site,σ.next⟩ 0 0)) (upd (upd (upd e (some nx) (.gy [.bool true,kv,vv])) (some ok) (.bool true)) (some en) (.gy [kv,vv])):=
    ((hK.upd (fun t h=>by cases h;simp)).upd (fun t h=>by cases h;simp)).upd (fun t h=>by cases h;simp)
   refine jB (fun _ _ _ _ h=>h) bf c _ _ _ _ (fun x e' s' hx=>?_) (y6 c _ _ _ (fun t ht=>List.mem_append_right _ ht) Hy (step pre cs (left.eraseIdx i) e s kv vv IT hI hK hk hv))
   obtain⟨hx,CH⟩:=hx
   have tP:I (pre++[cs]) e' s'->Ci m it nx ok en ⟨site,σ.next⟩ (dE (Call P) c) b b1 Q n (left.eraseIdx i) e' s':=fun TL=>
    ih (left.eraseIdx i) (pre++[cs]) e' s' (by rw[List.append_assoc];exact IT) (by rw[List.length_eraseIdx,if_pos lO];omega) TL CH
   cases x with
   |normal=>exact tP hx
   |ret=>exact hx
   |exit j0=>
    simp only[aX]at hx ⊢
    split at hx
    ·rename_i h1;rw[if_pos h1];exact tP hx
    ·rename_i h1;rw[if_neg h1];exact hx
 exact key _ r.rows [] _ _ (List.Perm.refl _) rfl h0 (gF.refl _ _)
end Go.Proofs.YtgoljkjaameagaaGreat.V

namespace Go.Proofs.YtgoljkjaameagaaGreat.V
open Go.RowKit
def Ns:Code->Code
 | .seq a _=>a
 |c=>c
def HG:Code->Code
 | .seq _ b=>b
 |c=>c
def Tg:Code->Code
 | .block _ c=>c
 |c=>c
def Ve:Code->Code
 | .loop c=>c
 |c=>c
def Sf:Code->List Oper
 | .region _ o _=>o.toList
 |_=>[]
def rg2 (k:Code):Code:=Ns (Ns (HG (HG k)))
def U9 (k:Code):Code:=HG (Ns (HG (HG k)))
def rgL (k:Code):Code:=Ve (Tg (U9 k))
def O8 (k:Code):Code:=HG (HG (rgL k))
def PM:Oper:={dst:=none,op:=.nilCheck (.tmp 0),type:=0,pos:= "",after:= #[],guard:=none}
def rgP (k:Code):List Oper:=(Sf (rg2 k)).dropLast
def rgO (k:Code):Oper:=(Sf (rg2 k)).getLastD PM
def S9 (k:Code) (i:Nat):Oper:=(Sf (Ns (rgL k))).getD i PM
def RU (k:Code):Oper:=(Sf (Ns (Tg (O8 k)))).headD PM
def RV (k:Code):List Oper:=(Sf (Ns (Tg (O8 k)))).tail
def rgR (k:Code):Code:=HG (Tg (O8 k))
def RW (P:Program) (v0 v1:VC) (vA:List bh) (m:MK) (tm:O) (site it nx ok en:Nat) (vE:List bh) (vR:VC) (b b1:Nat) (vT:VC) (Q:Ex->Env->aw->Prop):Env->aw->Prop:=
 dE (Sound P) v0 (de (dE (Sound P) v1 (de (wpOps (Sound P) false vA (G4 m tm site it nx ok en (dE (Sound P) (.seq (.eD false vE) vR)) b b1 (de (dE (Sound P) vT Q) Q))) Q)) Q)
def O9 (P:Program) (v0 v1:VC) (vA:List bh) (m:MK) (tm:O) (site it nx ok en:Nat) (vE:List bh) (vR:VC) (b b1:Nat) (vT:VC) (Q:Ex->Env->aw->Prop):Env->aw->Prop:=
 dE (Call P) v0 (de (dE (Call P) v1 (de (wpOps (Call P) false vA (G4 m tm site it nx ok en (dE (Call P) (.seq (.eD false vE) vR)) b b1 (de (dE (Call P) vT Q) Q))) Q)) Q)
theorem wQ {F F':Env->aw->Prop} {Q:Ex->Env->aw->Prop} (h:∀e s,F e s->F' e s):∀x e s,de F Q x e s->de F' Q x e s:=fun x e s hx=>by
 cases x with
 |normal=>exact h e s hx
 |ret=>exact hx
 |exit id=>exact hx
theorem JX {P:Program} (hm:P.follows .mixedOrders=true) {v0 v1:VC} {vA:List bh} {m:MK} {tm:O} {site it nx ok en:Nat} {vE:List bh} {vR:VC} {b b1:Nat} {vT:VC} {Q:Ex->Env->aw->Prop} {env:Env} {σ:aw}
  (h:O9 P v0 v1 vA m tm site it nx ok en vE vR b b1 vT Q env σ):RW P v0 v1 vA m tm site it nx ok en vE vR b b1 vT Q env σ:=
 sg hm (wQ fun _ _ h=>sg hm (wQ fun _ _ h=>lr (fun _ _ _ _ h=>gq hm h) kN (fun _ _ h=>G5 hm (wQ fun _ _ h=>sg hm (fun _ _ _ h=>h) h) h) _ _ _ h) h) h
noncomputable def oN:Go.Code:=Tryz.f101.body.getD .skip
def EE:VC:=(.eD false [⟨(some 2),(.new [.cm]),none,101000000,[]⟩])
def Kl:VC:=(.eD false [⟨(some 3),(.dh (.k .cm)),none,101001000,[]⟩])
def Km:List bh:=[⟨(some 6),(.dh (.t 0)),none,101002000,[]⟩,⟨(some 7),(.xZ (.t 6)),none,101002001,[]⟩,⟨(some 8),(.fI 4 (.t 7)),none,101002002,[]⟩,⟨(some 9),(.load false 1 (.t 8)),none,101002003,[]⟩]
def Ar:List bh:=[⟨(some 14),(.extract 0 (.t 13)),none,101004001,[]⟩,⟨(some 15),(.extract 1 (.t 13)),none,101004002,[]⟩,⟨(some 4),(.new [(.int .i64 0),(.int .i64 0)]),none,101004003,[]⟩,⟨none,(.store 2 (.t 4) (.t 14)),none,101004004,[]⟩,⟨(some 5),(.dh (.t 15)),none,101004005,[]⟩]
def As:VC:=(.eD false [⟨(some 16),(.dh (.t 3)),none,101005000,[]⟩,⟨(some 17),(.load true 2 (.t 4)),none,101005001,[]⟩,⟨(some 18),(.dh (.t 5)),none,101005002,[]⟩,⟨(some 19),(.build [(.int .i64 0),(.int .i64 0),(.int .i64 0)] [(0,(2,(.t 17))),(2,(1,(.t 18)))]),none,101005003,[]⟩,⟨(some 20),(.kO 3 1 [(.t 19)]),none,101005004,[]⟩,⟨(some 21),(.append 3 (.t 16) (.t 20)),none,101005005,[]⟩,⟨(some 3),(.dh (.t 21)),none,101005006,[]⟩])
def Au:VC:=(.seq (.eD false [⟨(some 22),(.dh (.t 3)),none,101006000,[]⟩,⟨(some 23),(.call 118 [(.t 22)]),none,101006001,[]⟩,⟨none,(.store 1 (.t 2) (.t 23)),none,101006002,[]⟩]) .ret)
def Aw:List nL:=[(.cell true 1 2)]
def EA:O:=(.t 9)
theorem OZ:HQ Tryz.prog [] Tryz.f101.ntmps 101 101004000 10 11 12 13 (S9 oN 0) (S9 oN 1) (RU oN) (RV oN) (rgR oN) Ar As:=⟨by kernel_rfl,by kernel_rfl,by kernel_rfl,by kernel_rfl,by kernel_rfl,by kernel_rfl,by kernel_rfl,by kernel_rfl,by kernel_rfl,by decide,by decide,by decide,by decide,by decide,by kernel_rfl,by kernel_rfl⟩
theorem Pb:oN=.seq (Ns oN) (.seq (Ns (HG oN)) (.seq (.seq (.region 2 (rgP oN++[rgO oN]).toArray false) (.block 0 (.loop (JW 3 4 0 1 12 (S9 oN 0) (S9 oN 1) (RU oN) (RV oN) (rgR oN))))) (HG (HG (HG oN))))):=by kernel_rfl
theorem NO (m:MK):CS Tryz.prog Tryz.f101.ntmps oN (RW Tryz.prog EE Kl Km m EA 101002999 10 11 12 13 Ar As 0 1 Au):=by
 rw[Pb]
 exact CS.seq (CS.code (md:=[]) (fid:=101) mixed (by kernel_rfl)) (CS.seq (CS.code (md:=[]) (fid:=101) mixed (by kernel_rfl)) (CS.seq (CS.rng (tm:=.tmp 9) (sA:=101002000) (t:=148) (k:=123) (e:=2) mixed OZ (by kernel_rfl) (by kernel_rfl) (by kernel_rfl) (by decide) (by kernel_rfl) (by kernel_rfl) (by kernel_rfl)) (CS.code (md:=[]) (fid:=101) mixed (by kernel_rfl))))
theorem O7 {args:List AV} {σ:aw} {K:AV->aw->Prop} (ha:args.length=Tryz.f101.params.size) (m:MK) (h:O9 Tryz.prog EE Kl Km m EA 101002999 10 11 12 13 Ar As 0 1 Au (kH Aw K) (bZ args) σ):Call Tryz.prog 101 args σ K:=
 CS.fn Tryz.func101 (by kernel_rfl) (by kernel_rfl) ha.symm (by decide) (NO m) (JX mixed h)
end Go.Proofs.YtgoljkjaameagaaGreat.V

namespace Go.Proofs.YtgoljkjaameagaaGreat.V
open Go.RowKit
attribute [local irreducible] dE wpOps fS Call
attribute [local go_sem] aH fq eG fH fG cX upd bZ K.av cD AV.cells AV.cell rowOf rowsOf part ld rowAt br bP dn dR gK bx cQ eb fD eS di dW cN cL dH dI bD aW cF bB cH cG dU dX dV cE bG cP dS bz aI cJ cq gJ bj cz bE aT de aX dp AV.undef bq bt dL dQ dB dz cw ea ee cj dZ dY cI cK List.getD_cons_zero List.getD_cons_succ List.getD_nil List.all_cons List.all_nil Bool.and_true Bool.true_and Bool.and_self Bool.not_true Bool.not_false Option.map_some Option.map_none Option.bind_some Option.bind_none List.length_cons List.length_nil List.take_succ_cons List.take_zero List.take_nil List.drop_succ_cons List.drop_zero List.drop_nil List.head?_cons List.map_cons List.map_nil List.getElem?_cons_zero List.getElem?_cons_succ List.cons_append List.nil_append List.append_nil List.length_map List.set_cons_zero List.set_cons_succ Nat.reduceMul eq_self Int.toNat_natCast Int.natCast_nonneg and_self true_and and_true decide_true decide_false Bool.false_eq_true Nat.zero_add Nat.add_zero List.contains_cons List.contains_nil Bool.or_false Bool.false_or beq_self_eq_true Nat.reduceBEq ne_eq not_true_eq_false not_false_eq_true Id.mk.injEq false_and and_false Nat.reduceLT Int.reduceLE Int.reduceLT Int.reduceToNat Int.reduceNeg Int.reduceAdd Nat.le_refl List.length_append beq_true beq_false Bool.not_eq_eq_eq_not or_false false_or dD ah aq aF aY bp bK aP bc aN aV cC bF
theorem yU:∀{ps qs:List ab},(ps.Pairwise fun a b=>iI a.aC b.aC=true)->(qs.Pairwise fun a b=>iI a.aC b.aC=true)->(∀x,x∈ps↔x∈qs)->ps=qs
 |[],[],_,_,_=>rfl
 |[],q::qs,_,_,h=>absurd ((h q).2 (by simp)) (by simp)
 |p::ps,[],_,_,h=>absurd ((h p).1 (by simp)) (by simp)
 |p::ps,q::qs,hp,hq,h=>by
  obtain⟨p1,p2⟩:=List.pairwise_cons.1 hp
  obtain⟨q1,q2⟩:=List.pairwise_cons.1 hq
  have e:p=q:=by
   rcases List.mem_cons.1 ((h p).1 (by simp))with e|e
   ·exact e
   ·rcases List.mem_cons.1 ((h q).2 (by simp))with e'|e'
    ·exact e'.symm
    ·have:=Js (q1 p e)
     rw[p1 q e']at this;cases this
  subst e
  congr 1
  refine yU p2 q2 fun x=>⟨fun hx=>?_,fun hx=>?_⟩
  ·rcases List.mem_cons.1 ((h x).1 (List.mem_cons_of_mem _ hx))with e|e
   ·subst e;have:=p1 x hx;rw[iF]at this;cases this
   ·exact e
  ·rcases List.mem_cons.1 ((h x).2 (List.mem_cons_of_mem _ hx))with e|e
   ·subst e;have:=q1 x hx;rw[iF]at this;cases this
   ·exact e
theorem En {L qs:List ab} (hR:iM L) (hp:qs.Perm L) (hs:∀i j:Nat,i<j->j<qs.length->iI (aD qs j).aC (aD qs i).aC=false):qs=L:=by
 rw[k9]at hR
 have hd:L.Pairwise fun a b=>a.aC≠b.aC:=hR.imp fun {a b} h e=>by rw[e,iF]at h;cases h
 have hdq:qs.Pairwise fun a b=>a.aC≠b.aC:=hp.symm.pairwise hd fun {a b} h e=>h e.symm
 refine yU ?_ hR fun x=>hp.mem_iff
 rw[List.pairwise_iff_getElem]at hdq ⊢
 intro i j hi hj zF
 have h1:=hs i j zF hj
 rw[ei hj,ei hi]at h1
 exact Ft h1 fun e=>hdq i j hi hj zF e.symm
theorem C8 (ps:List ab) (h0:ps≠[]) (hlen:ps.length<=1048576) (σ:aw) (id:Id) (hv:id.bY<σ.next) (hg:σ.get id=some ⟨true,3,ps.map aa⟩):
  Call Tryz.prog 166 [.own id 0 ps.length] σ fun a σ'=>∃o:Id,a=.own o 0 ps.length/\σ'.get o=some ⟨true,3,ps.map aa⟩/\σ.next<=o.bY/\o.bY<σ'.next/\∀x:Id,x.bY<σ.next->σ'.get x=σ.get x:=by
 refine gY eH rfl fun hl=>?_
 clear hl
 have h2:ps.length<=16777216:=by omega
 have hm:(ps.map aa).length=ps.length:=by simp
 have v1:=dP hv
 have ht:(ps.map aa).take ps.length=ps.map aa:=by rw[<-hm,List.take_length]
 have ha:(ps.map aa).all (fun c=>c.length==3&&c.all AV.cell)=true:=all_map fun x=>by simp[aa,AV.cell]
 (try((repeat(revert hN;revert N;apply Pn.out));refine wk (tw @hg (tw @h2 (tw @hm (tw @v1 (tw @ht @ha))))) ?_;(repeat(refine Pn.mk ?_;intro N hN))))
 exact gV (vs:=[.own ⟨166003002,σ.next+2⟩ 0 ps.length]) (.inl rfl) (sd @Nat.zero_add) ⟨_,rfl,sd @Nat.zero_add,by(try dsimp only);omega,by(try dsimp only);omega,fun x hx=>by
  have:=dP hx
  simp only[go_sem, ↓reduceIte,Nat.reduceEqDiff,Nat.reduceAdd,Nat.reduceSub,Nat.reduceLeDiff,reduceCtorEq,this]⟩
theorem zf (ps L:List ab) (hlen:ps.length<=1000000) (h0:ps≠[]) (hR:iM L) (hp:ps.Perm L) (σ:aw) (id:Id) (hv:id.bY<σ.next) (hg:σ.get id=some ⟨true,3,ps.map aa⟩):
  Call Tryz.prog 118 [.own id 0 ps.length] σ fun a σ'=>∃o:Id,a=.agg [.own o 0 L.length]/\σ'.get o=some ⟨true,3,L.map aa⟩/\σ.next<=o.bY/\o.bY<σ'.next/\∀x:Id,x.bY<σ.next->σ'.get x=σ.get x:=by
 refine gY eH rfl fun hl=>?_
 clear hl
 have v1:=dP hv
 (try((repeat(revert hN;revert N;apply Pn.out));refine wk (tw @hg @v1) ?_;(repeat(refine Pn.mk ?_;intro N hN))))
 refine .inr (bf _ _ _ _ _ (fun r σ1 hq=>?_) (C8 ps h0 (by omega) ⟨_,_⟩ id (by(try dsimp only);omega) (sd (tw @v1 @hg))))
 obtain⟨g1,x1⟩:=σ1
 obtain⟨o,rfl,q1,q2,q3,q4⟩:=hq
 (try dsimp only at q1 q2 q3 q4)
 have k2:=q4 ⟨118000000,σ.next⟩ (by(try dsimp only);omega)
 simp only[go_sem, ↓reduceIte,Nat.reduceEqDiff,Nat.reduceAdd,Nat.reduceSub,Nat.reduceLeDiff,reduceCtorEq]at k2
 refine hN _ _ ?_
 clear hN N
 (try((repeat(revert hN;revert N;apply Pn.out));refine wk @Nat.zero_add ?_;(repeat(refine Pn.mk ?_;intro N hN))))
 refine .inr (bf _ _ _ _ _ (fun r σ2 hq=>?_) (Ha Pf Pg ps (by omega) ⟨g1,_⟩ o q1))
 obtain⟨g2,x2⟩:=σ2
 obtain⟨u1,u2,ss,u3,u4,u5,u6⟩:=hq
 (try dsimp only at u1 u2 u3)
 have hss:ss=L:=En hR (u5.trans hp) u6
 rw[hss]at u3 u4
 have o2:(⟨118000000,σ.next⟩:Id)≠o:=fun e=>by rw[<-e]at q2;(try dsimp only at q2);omega
 have k3:=(u2 _ o2).trans k2
 have of:=eq_false (fun e:o=(⟨118000000,σ.next⟩:Id)=>o2 e.symm)
 refine hN _ _ ?_
 clear hN N
 (try((repeat(revert hN;revert N;apply Pn.out));refine wk @k3 ?_;(repeat(refine Pn.mk ?_;intro N hN))))
 exact gV (.inl rfl) (vs:=[.agg [.own o 0 ps.length]]) (sd @Nat.zero_add) ⟨o,by rw[u4];rfl,sd (tw @of @u3),by omega,by(try dsimp only);omega,fun x hx=>by
  have h1:x≠o:=fun e=>by rw[e]at hx;omega
  have h2:=u2 x h1
  have h3:=q4 x (by(try dsimp only);omega)
  have h4:=dP hx
  simp only[go_sem, ↓reduceIte,Nat.reduceEqDiff,Nat.reduceAdd,Nat.reduceSub,Nat.reduceLeDiff,reduceCtorEq,h4]at h3
  simp only[go_sem, ↓reduceIte,Nat.reduceEqDiff,Nat.reduceAdd,Nat.reduceSub,Nat.reduceLeDiff,reduceCtorEq,h4,h2,h3]⟩
structure nC (n:Nat) (px:Nat->Option Nat) (L:Nat->Nat):Prop where
 top:∀k,k<n->px k=none->L k=k
 up:∀k j,k<n->px k=some j->j<k/\L j=L k
theorem nC.root {n:Nat} {px:Nat->Option Nat} {L:Nat->Nat} (h:nC n px L) (hL:jJ L) {k:Nat} (hk:k<n) (hr:L k=k):px k=none:=by
 rcases hp:px k with _|j
 ·rfl
 ·obtain⟨h1,h2⟩:=h.up k j hk hp
  have:=hL.le j
  omega
theorem nC.start (n:Nat):nC n (fun _=>none) id:=⟨fun _ _ _=>rfl,fun _ _ _ h=>by cases h⟩
theorem nC.join {n:Nat} {px:Nat->Option Nat} {L:Nat->Nat} (h:nC n px L) (hL:jJ L) (b:PB) (dJ:min (L b.a) (L b.b)<max (L b.a) (L b.b)):nC n (fun k=>if k=max (L b.a) (L b.b)then some (min (L b.a) (L b.b))else px k) (eR L b):=by
 have ha:=hL.idem b.a
 have hb:=hL.idem b.b
 have zG:L (min (L b.a) (L b.b))=min (L b.a) (L b.b):=by
  rcases Nat.le_total (L b.a) (L b.b)with h|h
  ·rw[Nat.min_eq_left h,ha]
  ·rw[Nat.min_eq_right h,hb]
 have Re:L (max (L b.a) (L b.b))=max (L b.a) (L b.b):=by
  rcases Nat.le_total (L b.a) (L b.b)with h|h
  ·rw[Nat.max_eq_right h,hb]
  ·rw[Nat.max_eq_left h,ha]
 unfold eR
 generalize min (L b.a) (L b.b)=lo at *
 generalize max (L b.a) (L b.b)=hi at *
 refine⟨fun k hk hp=>?_,fun k j hk hp=>?_⟩
 ·by_cases KL:k=hi
  ·rw[if_pos KL]at hp;cases hp
  ·rw[if_neg KL]at hp
   have:=h.top k hk hp
   rw[if_neg (by omega)];exact this
 ·by_cases KL:k=hi
  ·rw[if_pos KL]at hp
   cases hp
   subst KL
   exact⟨dJ,by rw[if_neg (by omega),if_pos Re,zG]⟩
  ·rw[if_neg KL]at hp
   obtain⟨h1,h2⟩:=h.up k j hk hp
   exact⟨h1,by rw[h2]⟩
theorem zR {L:Nat->Nat} {b:PB} (h:L b.a=L b.b):eR L b=L:=by
 funext k
 unfold eR
 rw[h,Nat.max_self,Nat.min_self]
 split
 ·rename_i h;exact h.symm
 ·rfl
def sI (G:Nat->Id) (px:Nat->Option Nat) (k:Nat):List AV:=[match px k with|none=>.gT|some j=>.ptr (G j) 0 0,.int .i64 (k:Int)]
def tW (g:Rows) (G:Nat->Id) (n:Nat) (px:Nat->Option Nat):Prop:=∀k,k<n->g (G k)=some ⟨true,2,[sI G px k]⟩
theorem tW.frame {g g':Rows} {G:Nat->Id} {n:Nat} {px:Nat->Option Nat} (h:tW g G n px) (hf:∀k,k<n->g' (G k)=g (G k)):tW g' G n px:=fun k hk=>(hf k hk).trans (h k hk)
theorem lN {G:Nat->Id} {px:Nat->Option Nat} {k:Nat} (h:px k=none):sI G px k=[.gT,.int .i64 (k:Int)]:=by rw[sI,h]
theorem tF {G:Nat->Id} {px:Nat->Option Nat} {k j:Nat} (h:px k=some j):sI G px k=[.ptr (G j) 0 0,.int .i64 (k:Int)]:=by rw[sI,h]
theorem zt (G:Nat->Id) (n:Nat) (px:Nat->Option Nat) (L:Nat->Nat) (h:nC n px L) (k:Nat) (hk:k<n) (σ:aw) (hG:tW σ.get G n px):
  Call Tryz.prog 334 [.ptr (G k) 0 0] σ fun r σ'=>r=.ptr (G (L k)) 0 0/\σ'.get=σ.get/\σ.next<=σ'.next:=by
 refine gY eH rfl fun hl=>?_
 clear hl
 (try((repeat(revert hN;revert N;apply Pn.out));refine wk @Nat.zero_add ?_;(repeat(refine Pn.mk ?_;intro N hN))))
 refine aZ (fun m env st=>∃j:Nat,m=j/\j<n/\env 0=.ptr (G j) 0 0/\L j=L k/\st.get=σ.get/\σ.next<=st.next) k ⟨k,rfl,hk,sd @Nat.zero_add,rfl,by(try dsimp only),by(try dsimp only);omega⟩ ?_
 rintro m env_b st_b ⟨j,rfl,hj,b0,hLj,hg,hle⟩ fM
 clear fM
 have gh:=hG m hj
 rcases hp:px m with _|j
 ·rw[lN hp]at gh
  (try((repeat(revert hN;revert N;apply Pn.out));refine wk (tw @b0 (tw @hg @gh)) ?_;(repeat(refine Pn.mk ?_;intro N hN))))
  exact gV (.inl rfl) (vs:=[.ptr (G m) 0 0]) (sd @Nat.zero_add) ⟨by rw[<-hLj,h.top m hj hp];rfl,by first|trivial|rfl|exact hg,by(try dsimp only);omega⟩
 ·rw[tF hp]at gh
  obtain⟨h1,h2⟩:=h.up m j hj hp
  (try((repeat(revert hN;revert N;apply Pn.out));refine wk (tw @b0 (tw @hg @gh)) ?_;(repeat(refine Pn.mk ?_;intro N hN))))
  exact⟨j,h1,j,rfl,by omega,sd @Nat.zero_add,by omega,by first|trivial|rfl|exact hg,by(try dsimp only);omega⟩
end Go.Proofs.YtgoljkjaameagaaGreat.V

namespace Go.Proofs.YtgoljkjaameagaaGreat.V
open Go.RowKit
attribute [local irreducible] dE wpOps fS Call
attribute [local go_sem] aH fq eG fH fG cX upd bZ K.av cD AV.cells AV.cell rowOf rowsOf part ld rowAt br bP dn dR gK bx cQ eb fD eS di dW cN cL dH dI bD aW cF bB cH cG dU dX dV cE bG cP dS bz aI cJ cq gJ bj cz bE aT de aX dp AV.undef bq bt dL dQ dB dz cw ea ee cj dZ dY cI cK List.getD_cons_zero List.getD_cons_succ List.getD_nil List.all_cons List.all_nil Bool.and_true Bool.true_and Bool.and_self Bool.not_true Bool.not_false Option.map_some Option.map_none Option.bind_some Option.bind_none List.length_cons List.length_nil List.take_succ_cons List.take_zero List.take_nil List.drop_succ_cons List.drop_zero List.drop_nil List.head?_cons List.map_cons List.map_nil List.getElem?_cons_zero List.getElem?_cons_succ List.cons_append List.nil_append List.append_nil List.length_map List.set_cons_zero List.set_cons_succ eq_self Int.toNat_natCast Int.natCast_nonneg and_self true_and and_true decide_true decide_false Bool.false_eq_true Nat.zero_add Nat.add_zero List.contains_cons List.contains_nil Bool.or_false Bool.false_or beq_self_eq_true ne_eq not_true_eq_false not_false_eq_true Id.mk.injEq false_and and_false Nat.le_refl List.length_append beq_true beq_false Bool.not_eq_eq_eq_not or_false false_or dD ah aq aF aY bp bK aP bc aN aV cC bF
abbrev mI:MK:=⟨false,[.tI]⟩
def sQ (l:List (Nat×Nat)):List (List AV):=l.map fun p=>[.int .i64 (p.1:Int),.int .i64 (p.2:Int)]
theorem BI (r:Nat):∀(l:List (Nat×Nat)) (i:Nat),((∀p∈l,p.1≠r)->gm mI [.int .i64 (r:Int)] (sQ l) i=some none)/\(∀j v,l[j]? =some (r,v)->(∀x y,x<j->l[x]? =some y->y.1≠r)->gm mI [.int .i64 (r:Int)] (sQ l) i=some (some (i+j)))
 |[],i=>⟨fun _=>rfl,fun j v h=>by simp at h⟩
 |p::l,i=>by
  obtain⟨h1,h2⟩:=BI r l (i+1)
  by_cases h:p.1=r
  ·refine⟨fun hp=>absurd h (hp p (by simp)),fun j v hj hf=>?_⟩
   have hj0:j=0:=by
    rcases Nat.eq_zero_or_pos j with h0|h0
    ·exact h0
    ·exact absurd h (hf 0 p h0 (by simp))
   subst hj0
   simp[sQ,gm,eS,fD,MK.ks,h]
  ·have hd:¬((r:Int)=(p.1:Int)):=by omega
   have nQ:¬r=p.1:=fun he=>h he.symm
   have step:gm mI [.int .i64 (r:Int)] (sQ (p::l)) i=gm mI [.int .i64 (r:Int)] (sQ l) (i+1):=by
    unfold sQ
    simp[gm,MK.ks,eS,fD,hd,nQ,h]
   rw[step]
   refine⟨fun hp=>h1 fun q hq=>hp q (by simp[hq]),fun j v hj hf=>?_⟩
   cases j with
   |zero=>simp at hj;rw[hj]at h;exact absurd rfl h
   |succ j=>
    rw[h2 j v (by simpa using hj) fun x y hx hy=>hf (x+1) y (by omega) (by simpa using hy)]
    congr 2;omega
theorem yv {r:Nat} {l:List (Nat×Nat)}:((∀p∈l,p.1≠r)->fR mI (.int .i64 (r:Int)) (sQ l)=some none)/\(∀j v,l[j]? =some (r,v)->(∀x y,x<j->l[x]? =some y->y.1≠r)->fR mI (.int .i64 (r:Int)) (sQ l)=some (some j)):=by
 have e:fR mI (.int .i64 (r:Int)) (sQ l)=gm mI [.int .i64 (r:Int)] (sQ l) 0:=by
  unfold fR
  rw[if_pos ⟨rfl,rfl,rfl⟩];rfl
 obtain⟨h1,h2⟩:=BI r l 0
 rw[e]
 exact⟨h1,fun j v hj hf=>by rw[h2 j v hj hf,Nat.zero_add]⟩
def kW (k:Nat) (L:Nat->Nat):List (List AV):=sQ (leads k L).zipIdx
theorem DS {k:Nat} {L:Nat->Nat} (h:L k=k):kW (k+1) L=kW k L++[[.int .i64 (k:Int),.int .i64 ((leads k L).length:Int)]]:=by
 unfold kW
 rw[gS,if_pos h,List.zipIdx_append]
 simp[sQ]
theorem DR {k:Nat} {L:Nat->Nat} (h:L k≠k):kW (k+1) L=kW k L:=by
 unfold kW
 rw[gS,if_neg h,List.append_nil]
theorem GJ {k:Nat} {L:Nat->Nat} (h:L k=k):fR mI (.int .i64 (k:Int)) (kW k L)=some none:=by
 refine yv.1 fun p hp=>?_
 have:=List.fst_mem_of_mem_zipIdx hp
 have:=(yH.1 this).1
 omega
theorem yG {n:Nat} {L:Nat->Nat} {x y:Nat} (hx:x<(leads n L).length) (hy:y<(leads n L).length) (h:(leads n L)[x]=(leads n L)[y]):x=y:=by
 have hp:=List.pairwise_iff_getElem.1 (tM n L)
 rcases Nat.lt_trichotomy x y with dJ|he|dJ
 ·exact absurd h (hp x y hx hy dJ)
 ·exact he
 ·exact absurd h.symm (hp y x hy hx dJ)
theorem yF {k:Nat} {L:Nat->Nat} (hL:jJ L) (h:L k≠k):fR mI (.int .i64 (L k:Int)) (kW k L)=some (some (bV L k))/\(kW k L)[bV L k]? =some [.int .i64 (L k:Int),.int .i64 (bV L k:Int)]/\bV L k<(leads k L).length:=by
 have dJ:L k<k:=Nat.lt_of_le_of_ne (hL.le k) h
 have hn:bV L (L k)=bV L k:=by rw[bV,hL.idem,bV]
 have hg:=pA hL dJ
 rw[hn,hL.idem]at hg
 have hl:bV L k<(leads k L).length:=(List.getElem?_eq_some_iff.1 hg).1
 have hz:(leads k L).zipIdx[bV L k]? =some (L k,bV L k):=by simp[List.getElem?_zipIdx,hg]
 refine⟨yv.2 _ _ hz fun x y hx hy=>?_,by unfold kW sQ;rw[List.getElem?_map,hz];rfl,hl⟩
 intro he
 rw[List.getElem?_zipIdx]at hy
 have Qf:x<(leads k L).length:=by omega
 rw[List.getElem?_eq_getElem Qf]at hy
 simp at hy
 rw[<-hy]at he
 simp at he
 have e2:(leads k L)[bV L k]=L k:=(List.getElem?_eq_some_iff.1 hg).2
 have:=yG Qf hl (he.trans e2.symm)
 omega
def jO (k:Nat) (L:Nat->Nat):List (List Nat):=(leads k L).map (members k L)
theorem qv (k:Nat) (L:Nat->Nat):(jO k L).length=(leads k L).length:=by simp[jO]
theorem Dm {k:Nat} {L:Nat->Nat} (hL:jJ L) (h:L k=k):jO (k+1) L=jO k L++[[k]]:=by
 unfold jO
 rw[gS,if_pos h,List.map_append,List.map_cons,List.map_nil,jz,if_pos h,nk hL (Nat.le_refl k),List.nil_append]
 congr 1
 refine List.map_congr_left fun r hr=>?_
 have:=(yH.1 hr).1
 rw[jz,if_neg (by omega),List.append_nil]
theorem Dn {k:Nat} {L:Nat->Nat} (hL:jJ L) (h:L k≠k):(jO k L)[bV L k]? =some (members k L (L k))/\jO (k+1) L=(jO k L).set (bV L k) (members k L (L k)++[k]):=by
 obtain⟨_,_,hl⟩:=yF hL h
 have dJ:L k<k:=Nat.lt_of_le_of_ne (hL.le k) h
 have hg:=pA hL dJ
 have hn:bV L (L k)=bV L k:=by rw[bV,hL.idem,bV]
 rw[hn,hL.idem]at hg
 refine⟨by unfold jO;rw[List.getElem?_map,hg];rfl,?_⟩
 unfold jO
 rw[gS,if_neg h,List.append_nil]
 refine List.ext_getElem? fun i=>?_
 rw[List.getElem?_set,List.getElem?_map,List.length_map]
 by_cases hi:bV L k=i
 ·subst hi
  rw[if_pos rfl,if_pos hl,hg,Option.map_some,jz,if_pos rfl]
 ·rw[if_neg hi,List.getElem?_map]
  rcases hr:(leads k L)[i]? with _|r
  ·rfl
  ·rw[Option.map_some,Option.map_some,jz,if_neg,List.append_nil]
   rintro rfl
   obtain⟨lO,he⟩:=List.getElem?_eq_some_iff.1 hr
   have e2:(leads k L)[bV L k]=L k:=(List.getElem?_eq_some_iff.1 hg).2
   exact hi (yG hl lO (e2.trans he.symm))
theorem BY (k:Nat) (L:Nat->Nat) (r:Nat):(members k L r).length<=k:=by
 have:=List.length_filter_le (fun x=>L x==r) (List.range k)
 simpa[members]using this
def FL (g:Rows) (o:Id) (L:List (List Nat)) (nx:Nat):Prop:=∃rows ids,g o=some ⟨true,1,rows⟩/\eU PQ g rows L ids/\ids.Nodup/\(∀i∈ids,i.site=320026008/\i.bY<nx)/\o.site=320025002/\o.bY<nx
theorem FL.frame {g g':Rows} {o:Id} {L:List (List Nat)} {nx uH:Nat} (h:FL g o L nx) (hn:nx<=uH) (hf:∀i:Id,(i.site=320026008∨i.site=320025002)->i.bY<nx->g' i=g i):FL g' o L uH:=by
 obtain⟨rows,ids,h1,h2,h3,h4,h5,h6⟩:=h
 exact⟨rows,ids,(hf o (.inr h5) h6).trans h1,h2.frame LV fun i hi=>hf i (.inl (h4 i hi).1) (h4 i hi).2,h3,fun i hi=>⟨(h4 i hi).1,by have:=(h4 i hi).2;omega⟩,h5,by omega⟩
theorem Li {g':Rows} {v v' uH j:Nat} (h1:g' ⟨320025002,v⟩=some ⟨true,1,[[.own ⟨320026008,v'⟩ 0 1]]⟩) (h2:g' ⟨320026008,v'⟩=some ⟨true,1,[eN j]⟩) (hv:v<uH) (nU:v'<uH):FL g' ⟨320025002,v⟩ [[j]] uH:=
 ⟨_,[⟨320026008,v'⟩],h1,.one ⟨_,rfl,h2,rfl⟩,by simp,fun i hi=>by rw[List.mem_singleton.1 hi];exact⟨rfl,nU⟩,rfl,hv⟩
theorem FL.new {g:Rows} {o:Id} {L:List (List Nat)} {nx:Nat} (h:FL g o L nx) (j:Nat):∃rows,g o=some ⟨true,1,rows⟩/\rows.length=L.length/\∀(g':Rows) (v v' uH:Nat),nx<=v'->v<uH->v'<uH->g' ⟨320025002,v⟩=some ⟨true,1,rows++[[.own ⟨320026008,v'⟩ 0 1]]⟩->g' ⟨320026008,v'⟩=some ⟨true,1,[eN j]⟩->(∀i:Id,i.site=320026008->i.bY<nx->g' i=g i)->FL g' ⟨320025002,v⟩ (L++[[j]]) uH:=by
 obtain⟨rows,ids,h1,h2,h3,h4,h5,h6⟩:=h
 refine⟨rows,h1,h2.len,fun g' v v' uH hv vW LC q1 q2 q3=>⟨_,ids++[⟨320026008,v'⟩],q1,(h2.frame LV fun i hi=>q3 i (h4 i hi).1 (h4 i hi).2).app (.one ⟨_,rfl,q2,rfl⟩),?_,fun i hi=>?_,rfl,vW⟩⟩
 ·refine List.nodup_append.2 ⟨h3,by simp,fun a ha b hb po=>?_⟩
  rw[List.mem_singleton.1 hb]at po
  have:=(h4 a ha).2
  rw[po]at this
  simp only at this
  omega
 ·rcases List.mem_append.1 hi with hi|hi
  ·have:=h4 i hi;exact⟨this.1,by omega⟩
  ·rw[List.mem_singleton.1 hi];exact⟨rfl,LC⟩
theorem FL.add {g:Rows} {o:Id} {L:List (List Nat)} {nx k:Nat} {La:List Nat} (h:FL g o L nx) (hk:L[k]? =some La) (j:Nat):∃rows id,g o=some ⟨true,1,rows⟩/\rows.length=L.length/\rows[k]? =some [.own id 0 La.length]/\g id=some ⟨true,1,La.map eN⟩/\id.site=320026008/\id.bY<nx/\∀(g':Rows) (v' uH:Nat),nx<=v'->v'<uH->g' o=some ⟨true,1,rows.set k [.own ⟨320026008,v'⟩ 0 (La.length+1)]⟩->g' ⟨320026008,v'⟩=some ⟨true,1,La.map eN++[[.int .i64 (j:Int)]]⟩->(∀i:Id,i.site=320026008->i.bY<nx->(i=id)=False->g' i=g i)->FL g' o (L.set k (La++[j])) uH:=by
 obtain⟨rows,ids,h1,h2,h3,h4,h5,h6⟩:=h
 have kq:k<L.length:=(List.getElem?_eq_some_iff.1 hk).1
 have TM:=kR hk kq
 obtain⟨cs,ic,dq,PX,Q8,vV⟩:=h2.RS LV h3 k kq
 rw[TM]at PX
 obtain⟨id,rfl,q1,rfl⟩:=PX
 have hid:=h4 id (Q8 id (by simp))
 refine⟨rows,id,h1,h2.len,dq,q1,hid.1,hid.2,fun g' v' uH hv vW r1 r2 r3=>?_⟩
 obtain⟨DI,s1,s2,s3⟩:=vV g' [.own ⟨320026008,v'⟩ 0 (La.length+1)] (La++[j]) [⟨320026008,v'⟩] ⟨_,by simp,by rw[r2];simp[eN],rfl⟩ (fun i hi SR=>r3 i (h4 i hi).1 (h4 i hi).2 (by
  simp only[eq_iff_iff,iff_false];rintro rfl;exact SR (by simp))) (by simp) fun i hi hc=>by
   rw[List.mem_singleton.1 hi]at hc
   have:=(h4 _ hc).2
   simp only at this
   omega
 refine⟨_,DI,r1,s1,s2,fun i hi=>?_,h5,by omega⟩
 rcases s3 i hi with h|h
 ·rw[List.mem_singleton.1 h];exact⟨rfl,vW⟩
 ·have:=h4 i h;exact⟨this.1,by omega⟩
def mh (G:Nat->Id) (n k:Nat):List (List AV):=(List.range n).map fun i=>[if i<k then .ptr (G i) 0 0 else .gT]
theorem mM (G:Nat->Id) (n k:Nat):(mh G n k).length=n:=by simp[mh]
theorem Hg (G:Nat->Id) (n:Nat):List.replicate n [AV.gT]=mh G n 0:=by
 refine List.ext_getElem? fun i=>?_
 by_cases h:i<n
 ·rw[List.getElem?_replicate,if_pos h];simp[mh,h]
 ·rw[List.getElem?_eq_none (by simp;omega),List.getElem?_eq_none (by rw[mM];omega)]
theorem wU {G:Nat->Id} {n i:Nat} (h:i<n):(mh G n n)[i]? =some [.ptr (G i) 0 0]:=by simp[mh,h]
theorem Kc {G:Nat->Id} {n k:Nat} (h:k<n):(mh G n k).set k [.ptr (G k) 0 0]=mh G n (k+1):=by
 refine List.ext_getElem? fun i=>?_
 rw[List.getElem?_set,mM]
 by_cases hi:k=i
 ·subst hi;rw[if_pos rfl,if_pos h];simp[mh,h]
 ·rw[if_neg hi]
  by_cases fc:i<n
  ·simp only[mh,List.getElem?_map,List.getElem?_range fc,Option.map_some]
   by_cases yh:i<k
   ·rw[if_pos yh,if_pos (by omega)]
   ·rw[if_neg yh,if_neg (by omega)]
  ·rw[List.getElem?_eq_none (by rw[mM];omega),List.getElem?_eq_none (by rw[mM];omega)]
end Go.Proofs.YtgoljkjaameagaaGreat.V

namespace Go.Proofs.YtgoljkjaameagaaGreat.V
open Go.RowKit
attribute [local irreducible] dE wpOps fS Call
attribute [local go_sem] aH fq eG fH fG cX upd bZ K.av cD AV.cells AV.cell rowOf rowsOf part ld rowAt br bP dn dR gK bx cQ eb fD eS di dW cN cL dH dI bD aW cF bB cH cG dU dX dV cE bG cP dS bz aI cJ cq gJ bj cz bE aT de aX dp AV.undef bq bt dL dQ dB dz cw ea ee cj dZ dY cI cK List.getD_cons_zero List.getD_cons_succ List.getD_nil List.all_cons List.all_nil Bool.and_true Bool.true_and Bool.and_self Bool.not_true Bool.not_false Option.map_some Option.map_none Option.bind_some Option.bind_none List.length_cons List.length_nil List.take_succ_cons List.take_zero List.take_nil List.drop_succ_cons List.drop_zero List.drop_nil List.head?_cons List.map_cons List.map_nil List.getElem?_cons_zero List.getElem?_cons_succ List.cons_append List.nil_append List.append_nil List.length_map List.set_cons_zero List.set_cons_succ Nat.reduceMul eq_self Int.toNat_natCast Int.natCast_nonneg and_self true_and and_true decide_true decide_false Bool.false_eq_true Nat.zero_add Nat.add_zero List.contains_cons List.contains_nil Bool.or_false Bool.false_or beq_self_eq_true Nat.reduceBEq ne_eq not_true_eq_false not_false_eq_true Id.mk.injEq false_and and_false Nat.reduceLT Int.reduceLE Int.reduceLT Int.reduceToNat Int.reduceNeg Int.reduceAdd Nat.le_refl List.length_append beq_true beq_false Bool.not_eq_eq_eq_not or_false false_or dD ah aq aF aY bp bK aP bc aN aV cC bF
theorem gH {o:Id} {a:Nat} (h:o.site=a) {b v:Nat} (po:(a==b)=false):(o=⟨b,v⟩)=False/\((⟨b,v⟩:Id)=o)=False:=by
 have h1:=Ah h (v:=v) po
 refine⟨h1,?_⟩
 simp only[eq_iff_iff,iff_false]at h1 ⊢
 exact fun h=>h1 h.symm
theorem vM (cnt:Nat) (qb:1<=cnt) (hn:cnt<=1048576) (bs:List PB) (hb:∀b∈bs,b.a<cnt/\b.b<cnt) (nX:bs.length<=1048576):aj Tryz.prog 320 [.int .i64 cnt,.sl (bs.map aA)] (.sl ((fB cnt (eB bs)).map AG)):=by
 intro n0
 refine CN NM rfl fun hl=>?_
 try simp only[q]
 clear hl
 have jL:(0:Int)<=(cnt:Int):=by omega
 have qa:(cnt:Int)<=((16777216:Nat):Int):=by omega
 obtain⟨G,hG⟩:∃G:Nat->Id,G=fun k=>⟨320005004,n0+3+4*k+2⟩:=⟨_,rfl⟩
 have Sr:∀k,(G k).site=320005004:=fun k=>by rw[hG]
 have TI:∀k,(G k).bY=n0+3+4*k+2:=fun k=>by rw[hG]
 have TG:∀i j,i≠j->(G i=G j)=False:=fun i j h=>by
  simp only[eq_iff_iff,iff_false]
  intro he
  have h1:=TI i
  rw[he,TI j]at h1
  omega
 have Lk:∀i s v,(320005004==s)=false->(G i=⟨s,v⟩)=False:=fun i s v h=>Ah (Sr i) h
 have hz:=Hg G cnt
 (try((repeat(revert hN;revert N;apply Pn.out));refine wk (tw @jL (tw @qa (tw @Int.le_refl @hz))) ?_;(repeat(refine Pn.mk ?_;intro N hN))))
 refine aZ (fun n env st=>∃k:Nat,n=(cnt)-k/\k<=(cnt)/\env 21=.int .i64 (k:Int)/\st.get ⟨320001001,n0+1⟩=some ⟨true,1,mh G cnt k⟩/\(st.next=n0+3+4*k/\∀j:Nat,j<k->st.get (G j)=some ⟨true,2,[[.gT,.int .i64 (j:Int)]]⟩)) (cnt) ⟨0,by omega,by omega,sl @hz,sl @hz,⟨rfl,fun j hj=>by omega⟩⟩ ?_
 rintro n_a env_a st_a ⟨k,rfl,ale,a21,ag0,qQ⟩ ez
 have a0:=ez 0 (by kernel_rfl);have a1:=ez 1 (by kernel_rfl);have a5:=ez 5 (by kernel_rfl);have NB:=ez 19 (by kernel_rfl);have a20:=ez 20 (by kernel_rfl)
 simp only[go_sem, ↓reduceIte,Nat.reduceEqDiff,Nat.reduceAdd,Nat.reduceSub,Nat.reduceLeDiff,reduceCtorEq,hz]at a0 a1 a5 NB a20
 clear ez
 obtain⟨qQ,mi⟩:=qQ
 by_cases hk:(k:Int)<(cnt:Int)
 ·have dd:∀{e:Env} {gg:Rows} {nx:Nat},(e 21=.int .i64 (IntKind.i64.wrap ((k:Int)+1)))->(gg ⟨320001001,n0+1⟩=some ⟨true,1,mh G cnt (k+1)⟩)->(nx=n0+3+4*(k+1)/\∀j:Nat,j<(k+1)->gg (G j)=some ⟨true,2,[[.gT,.int .i64 (j:Int)]]⟩)->∃m0,m0<(cnt)-k/\∃k:Nat,m0=(cnt)-k/\k<=(cnt)/\e 21=.int .i64 (k:Int)/\gg ⟨320001001,n0+1⟩=some ⟨true,1,mh G cnt k⟩/\(nx=n0+3+4*k/\∀j:Nat,j<k->gg (G j)=some ⟨true,2,[[.gT,.int .i64 (j:Int)]]⟩):=fun x1 x2 x3=>⟨_,by omega,k+1,rfl,by omega,(by rw[x1,az (by omega)]),x2,x3⟩
  have fm:k<cnt:=by omega
  have tl:=mM G cnt k
  have fh:=Kc (G:=G) fm
  have eh:(mh G cnt k)[k]? =some [.gT]:=by simp[mh,fm]
  have Sp:(⟨320005004,st_a.next+1+1⟩:Id)=G k:=by rw[hG,qQ]
  have hGf:∀j,j<k->(G j=G k)=False:=fun j hj=>TG j k (by omega)
  have zA:∀j,(G j=(⟨320001001,n0+1⟩:Id))=False:=fun j=>Lk j _ _ (by decide)
  have Dq:∀j,((⟨320001001,n0+1⟩:Id)=G j)=False:=fun j=>by
   have:=zA j
   simp only[eq_iff_iff,iff_false]at this ⊢
   exact fun h=>this h.symm
  (try((repeat(revert hN;revert N;apply Pn.out));refine wk (tw @a21 (tw @ag0 (tw @a0 (tw @a1 (tw @a5 (tw @NB (tw @a20 (tw @hk (tw @tl (tw @Sp (tw @zA (tw @Dq (tw @fh @eh))))))))))))) ?_;(repeat(refine Pn.mk ?_;intro N hN))))
  refine dd ?_ ?_ (by
   refine⟨by(try dsimp only)<;>omega,fun j hj=>?_⟩
   by_cases yi:j=k
   ·subst yi;simp only[go_sem, ↓reduceIte,Nat.reduceEqDiff,Nat.reduceAdd,Nat.reduceSub,Nat.reduceLeDiff,reduceCtorEq,Sp,zA,Dq]
   ·have hold:=mi j (by omega)
    have ik:=hGf j (by omega)
    simp only[go_sem, ↓reduceIte,Nat.reduceEqDiff,Nat.reduceAdd,Nat.reduceSub,Nat.reduceLeDiff,reduceCtorEq,Sp,zA,Dq,ik,hold])
  all_goals simp only[go_sem, ↓reduceIte,Nat.reduceEqDiff,Nat.reduceAdd,Nat.reduceSub,Nat.reduceLeDiff,reduceCtorEq,a21,ag0,a0,a1,a5,NB,a20,Sp,zA,Dq,fh]
 have kq:cnt=k:=by omega
 subst kq
 (try((repeat(revert hN;revert N;apply Pn.out));refine wk (tw @a21 (tw @ag0 (tw @a0 (tw @a1 (tw @a5 (tw @NB (tw @a20 @hk))))))) ?_;(repeat(refine Pn.mk ?_;intro N hN))))
 refine aZ (fun n env st=>∃i:Nat,n=(bs.length)-i/\i<=(bs.length)/\env 33=.int .i64 (i:Int)/\st.get ⟨320001001,n0+1⟩=some ⟨true,1,mh G cnt cnt⟩/\(n0+3+4*cnt<=st.next)/\(∃px,nC cnt px (eB (bs.take i))/\tW st.get G cnt px)) (bs.length) ⟨0,by omega,by omega,sl (tw @a21 (tw @ag0 (tw @a0 (tw @a1 (tw @a5 (tw @NB @a20)))))),sl (tw @a21 (tw @ag0 (tw @a0 (tw @a1 (tw @a5 (tw @NB @a20)))))),(by(try dsimp only);omega),⟨fun _=>none,nC.start cnt,mi⟩⟩ ?_
 rintro n_b env_b st_b ⟨i,rfl,ble,tX,bg0,bI0,bI1⟩ fM
 have b0:=fM 0 (by kernel_rfl);have b1:=fM 1 (by kernel_rfl);have b5:=fM 5 (by kernel_rfl);have xS:=fM 31 (by kernel_rfl);have tq:=fM 32 (by kernel_rfl)
 simp only[go_sem, ↓reduceIte,Nat.reduceEqDiff,Nat.reduceAdd,Nat.reduceSub,Nat.reduceLeDiff,reduceCtorEq,a21,ag0,a0,a1,a5,NB,a20]at b0 b1 b5 xS tq
 clear fM
 obtain⟨px,KP,Sq⟩:=bI1
 have tl:=mM G cnt cnt
 have QJ:∀j v,(G j=(⟨320009002,v⟩:Id))=False:=fun j v=>Lk j _ v (by decide)
 have zA:∀j v,(G j=(⟨320001001,v⟩:Id))=False:=fun j v=>Lk j _ v (by decide)
 have Dq:∀j v,((⟨320001001,v⟩:Id)=G j)=False:=fun j v=>by
  have:=zA j v
  simp only[eq_iff_iff,iff_false]at this ⊢
  exact fun h=>this h.symm
 have hGn:∀j,j<cnt->(G j).bY<st_b.next:=fun j hj=>by rw[TI];omega
 by_cases hi:(i:Int)<(bs.length:Int)
 ·have fC:∀{e:Env} {gg:Rows} {nx:Nat},(e 33=.int .i64 (IntKind.i64.wrap ((i:Int)+1)))->(gg ⟨320001001,n0+1⟩=some ⟨true,1,mh G cnt cnt⟩)->(n0+3+4*cnt<=nx)->(∃px,nC cnt px (eB (bs.take (i+1)))/\tW gg G cnt px)->∃m0,m0<(bs.length)-i/\∃i:Nat,m0=(bs.length)-i/\i<=(bs.length)/\e 33=.int .i64 (i:Int)/\gg ⟨320001001,n0+1⟩=some ⟨true,1,mh G cnt cnt⟩/\(n0+3+4*cnt<=nx)/\(∃px,nC cnt px (eB (bs.take i))/\tW gg G cnt px):=fun x1 x2 x3 x4=>⟨_,by omega,i+1,rfl,by omega,(by rw[x1,az (by omega)]),x2,x3,x4⟩
  have fc:i<bs.length:=by omega
  have jM:(bs.map aA)[i]? =some (aA bs[i]):=by simp[fc]
  have Ge:=hb _ (List.getElem_mem fc)
  have mm:bs.take (i+1)=bs.take i++[bs[i]]:=List.take_succ_eq_append_getElem fc
  have lQ:eB (bs.take (i+1))=eR (eB (bs.take i)) bs[i]:=by rw[mm,wh]
  have hL:=tL (bs.take i)
  generalize eB (bs.take i)=L at *
  generalize bs[i]=b at *
  have gA:=wU (G:=G) Ge.1
  have gB:=wU (G:=G) Ge.2
  have gM:(b.a:Int)<(cnt:Int):=by omega
  have fV:(b.b:Int)<(cnt:Int):=by omega
  (try((repeat(revert hN;revert N;apply Pn.out));refine wk (tw @tX (tw @bg0 (tw @b0 (tw @b1 (tw @b5 (tw @xS (tw @tq (tw @hi (tw @jM (tw @aA.eq_1 (tw @gA (tw @gB (tw @gM (tw @fV @tl)))))))))))))) ?_;(repeat(refine Pn.mk ?_;intro N hN))))
  refine Kr (fun e s=>e 0=.int .i64 cnt/\e 1=.sl (bs.map aA)/\e 5=.own ⟨320001001,n0+1⟩ 0 cnt/\e 31=.sl (bs.map aA)/\e 32=.int .i64 bs.length/\e 33=.int .i64 i/\e 9=.ptr (G (L b.a)) 0 0/\e 10=.ptr (G (L b.b)) 0 0/\(∀j:Id,j.bY<st_b.next->s.get j=st_b.get j)/\st_b.next<=s.next) ?_ ?_
  ·rintro e1 s1 ⟨m0,m1,m5,m31,m32,m33,m9,m10,mf,mn⟩
   refine hN _ _ ?_
   clear hN N
   have mG:tW s1.get G cnt px:=Sq.frame fun k hk=>mf _ (hGn k hk)
   have mt:=(mf ⟨320001001,n0+1⟩ (by(try dsimp only);omega)).trans bg0
   have Un:L b.a<cnt:=Nat.lt_of_le_of_lt (hL.le _) Ge.1
   have Rb:L b.b<cnt:=Nat.lt_of_le_of_lt (hL.le _) Ge.2
   have ra:=mG _ Un
   have rb:=mG _ Rb
   rw[lN (KP.root hL Un (hL.idem _))]at ra
   rw[lN (KP.root hL Rb (hL.idem _))]at rb
   have put:∀(g':Rows) (lo hi:Nat),hi<cnt->g' (G hi)=some ⟨true,2,[[.ptr (G lo) 0 0,.int .i64 (hi:Int)]]⟩->(∀k,k≠hi->k<cnt->g' (G k)=s1.get (G k))->tW g' G cnt (fun k=>if k=hi then some lo else px k):=fun g' lo hi _ h1 h2 k hk=>by
    by_cases KL:k=hi
    ·subst KL;rw[h1,tF (j:=lo) (if_pos rfl)]
    ·rw[h2 k KL hk,mG k hk]
     unfold sI
     simp only[if_neg KL]
   rcases Nat.lt_trichotomy (L b.a) (L b.b)with dJ|heq|dJ
   ·have Oz:(L b.a:Int)<(L b.b:Int):=by omega
    have hj:=KP.join hL b (by omega)
    rw[Nat.max_eq_right (by omega),Nat.min_eq_left (by omega),<-lQ]at hj
    (try((repeat(revert hN;revert N;apply Pn.out));refine wk (tw @m0 (tw @m1 (tw @m5 (tw @m31 (tw @m32 (tw @m33 (tw @m9 (tw @m10 (tw @ra (tw @rb @Oz)))))))))) ?_;(repeat(refine Pn.mk ?_;intro N hN))))
    refine fC ?_ ?_ (by(try dsimp only);omega) (⟨_,hj,put _ _ _ Rb (sd @Nat.zero_add) (fun k hk _=>by
     have ik:=TG k _ hk
     simp only[go_sem, ↓reduceIte,Nat.reduceEqDiff,Nat.reduceAdd,Nat.reduceSub,Nat.reduceLeDiff,reduceCtorEq,ik])⟩)
    all_goals simp only[go_sem, ↓reduceIte,Nat.reduceEqDiff,Nat.reduceAdd,Nat.reduceSub,Nat.reduceLeDiff,reduceCtorEq,m0,m1,m5,m31,m32,m33,mt,zA,Dq]
   ·have qb:¬(L b.a:Int)<(L b.b:Int):=by omega
    have Dy:¬(L b.b:Int)<(L b.a:Int):=by omega
    have HC:=zR heq
    rw[HC]at lQ
    (try((repeat(revert hN;revert N;apply Pn.out));refine wk (tw @m0 (tw @m1 (tw @m5 (tw @m31 (tw @m32 (tw @m33 (tw @m9 (tw @m10 (tw @ra (tw @rb (tw @qb @Dy))))))))))) ?_;(repeat(refine Pn.mk ?_;intro N hN))))
    refine fC ?_ ?_ (by(try dsimp only);omega) (⟨_,lQ▸KP,mG.frame fun k hk=>rfl⟩)
    all_goals simp only[go_sem, ↓reduceIte,Nat.reduceEqDiff,Nat.reduceAdd,Nat.reduceSub,Nat.reduceLeDiff,reduceCtorEq,m0,m1,m5,m31,m32,m33,mt]
   ·have Oz:(L b.b:Int)<(L b.a:Int):=by omega
    have qb:¬(L b.a:Int)<(L b.b:Int):=by omega
    have hj:=KP.join hL b (by omega)
    rw[Nat.max_eq_left (by omega),Nat.min_eq_right (by omega),<-lQ]at hj
    (try((repeat(revert hN;revert N;apply Pn.out));refine wk (tw @m0 (tw @m1 (tw @m5 (tw @m31 (tw @m32 (tw @m33 (tw @m9 (tw @m10 (tw @ra (tw @rb (tw @Oz @qb))))))))))) ?_;(repeat(refine Pn.mk ?_;intro N hN))))
    refine fC ?_ ?_ (by(try dsimp only);omega) (⟨_,hj,put _ _ _ Un (sd @Nat.zero_add) (fun k hk _=>by
     have ik:=TG k _ hk
     simp only[go_sem, ↓reduceIte,Nat.reduceEqDiff,Nat.reduceAdd,Nat.reduceSub,Nat.reduceLeDiff,reduceCtorEq,ik])⟩)
    all_goals simp only[go_sem, ↓reduceIte,Nat.reduceEqDiff,Nat.reduceAdd,Nat.reduceSub,Nat.reduceLeDiff,reduceCtorEq,m0,m1,m5,m31,m32,m33,mt,zA,Dq]
  ·intro N hN
   refine fb ?_ ?_<;>(try((repeat(revert hN;revert N;apply Pn.out));refine wk (tw @tX (tw @bg0 (tw @b0 (tw @b1 (tw @b5 (tw @xS (tw @tq (tw @hi (tw @jM (tw @aA.eq_1 (tw @gA (tw @gB (tw @gM (tw @fV @tl)))))))))))))) ?_;(repeat(refine Pn.mk ?_;intro N hN))))<;>(try refine fb ?_ ?_)<;>(try((repeat(revert hN;revert N;apply Pn.out));refine wk (tw @tX (tw @bg0 (tw @b0 (tw @b1 (tw @b5 (tw @xS (tw @tq (tw @hi (tw @jM (tw @aA.eq_1 (tw @gA (tw @gB (tw @gM (tw @fV @tl)))))))))))))) ?_;(repeat(refine Pn.mk ?_;intro N hN))))<;>(try refine fb ?_ ?_)<;>(try((repeat(revert hN;revert N;apply Pn.out));refine wk (tw @tX (tw @bg0 (tw @b0 (tw @b1 (tw @b5 (tw @xS (tw @tq (tw @hi (tw @jM (tw @aA.eq_1 (tw @gA (tw @gB (tw @gM (tw @fV @tl)))))))))))))) ?_;(repeat(refine Pn.mk ?_;intro N hN))))
   all_goals
    refine .inr (bf _ _ _ _ _ (fun r σ1 hq=>?_) (zt G cnt px L KP b.a Ge.1 _ (Sq.frame fun k hk=>sd @QJ)))
    obtain⟨g1,x1⟩:=σ1
    obtain⟨rfl,Dt,Gh⟩:=hq
    (try dsimp only at Dt Gh)
    subst Dt
    refine hN _ _ ?_
    clear hN N
    (try((repeat(revert hN;revert N;apply Pn.out));refine wk (tw @tX (tw @bg0 (tw @b0 (tw @b1 (tw @b5 (tw @xS (tw @tq (tw @hi (tw @jM (tw @aA.eq_1 (tw @gA (tw @gB (tw @gM (tw @fV @tl)))))))))))))) ?_;(repeat(refine Pn.mk ?_;intro N hN))))
    refine .inr (bf _ _ _ _ _ (fun r σ1 hq=>?_) (zt G cnt px L KP b.b Ge.2 _ (Sq.frame fun k hk=>sd @QJ)))
    obtain⟨g1,x2⟩:=σ1
    obtain⟨rfl,Dt,l9⟩:=hq
    (try dsimp only at Dt l9)
    subst Dt
    refine hN _ _ ?_
    clear hN N
    (try((repeat(revert hN;revert N;apply Pn.out));refine wk (tw @tX (tw @bg0 (tw @b0 (tw @b1 (tw @b5 (tw @xS (tw @tq (tw @hi (tw @jM (tw @aA.eq_1 (tw @gA (tw @gB (tw @gM (tw @fV @tl)))))))))))))) ?_;(repeat(refine Pn.mk ?_;intro N hN))))
    exact⟨sd (tw @tX (tw @bg0 (tw @b0 (tw @b1 (tw @b5 (tw @xS @tq)))))),sd (tw @tX (tw @bg0 (tw @b0 (tw @b1 (tw @b5 (tw @xS @tq)))))),sd (tw @tX (tw @bg0 (tw @b0 (tw @b1 (tw @b5 (tw @xS @tq)))))),sd (tw @tX (tw @bg0 (tw @b0 (tw @b1 (tw @b5 (tw @xS @tq)))))),sd (tw @tX (tw @bg0 (tw @b0 (tw @b1 (tw @b5 (tw @xS @tq)))))),sd (tw @tX (tw @bg0 (tw @b0 (tw @b1 (tw @b5 (tw @xS @tq)))))),sd (tw @tX (tw @bg0 (tw @b0 (tw @b1 (tw @b5 (tw @xS @tq)))))),sd (tw @tX (tw @bg0 (tw @b0 (tw @b1 (tw @b5 (tw @xS @tq)))))),fun j hj=>by
     have hv:=dP hj
     simp only[go_sem, ↓reduceIte,Nat.reduceEqDiff,Nat.reduceAdd,Nat.reduceSub,Nat.reduceLeDiff,reduceCtorEq,hv],by(try dsimp only);omega⟩
 have lO:i=bs.length:=by omega
 subst lO
 rw[List.take_length]at KP
 have hL:=tL bs
 generalize eB bs=L at *
 (try((repeat(revert hN;revert N;apply Pn.out));refine wk (tw @tX (tw @bg0 (tw @b0 (tw @b1 (tw @b5 (tw @xS (tw @tq (tw @hi @tl)))))))) ?_;(repeat(refine Pn.mk ?_;intro N hN))))
 have l0:kW 0 L=[]:=rfl
 have oS:(none:Option Nat).isSome=false:=rfl
 have oT:∀a:Nat,(some a).isSome=true:=fun _=>rfl
 refine aZ (fun n env st=>∃x:Nat,n=(cnt)-x/\x<=(cnt)/\env 81=.int .i64 (x:Int)/\st.get ⟨320001001,n0+1⟩=some ⟨true,1,mh G cnt cnt⟩/\st.get ⟨320017000,st_b.next+1+1⟩=some ⟨true,mI.pE,kW x L⟩/\(st_b.next+3<=st.next/\tW st.get G cnt px)/\((x=0/\env 11=.cm)∨∃o:Id,env 11=.own o 0 (leads x L).length/\FL st.get o (jO x L) st.next)) (cnt) ⟨0,by omega,by omega,sl (tw @tX (tw @bg0 (tw @b0 (tw @b1 (tw @b5 (tw @xS (tw @tq @l0))))))),sl (tw @tX (tw @bg0 (tw @b0 (tw @b1 (tw @b5 (tw @xS (tw @tq @l0))))))),sl (tw @tX (tw @bg0 (tw @b0 (tw @b1 (tw @b5 (tw @xS (tw @tq @l0))))))),⟨by(try dsimp only);omega,Sq.frame fun k hk=>by(have ik:=Lk k 320017000 (st_b.next+1+1) (by decide));simp only[go_sem, ↓reduceIte,Nat.reduceEqDiff,Nat.reduceAdd,Nat.reduceSub,Nat.reduceLeDiff,reduceCtorEq,ik]⟩,.inl ⟨rfl,sd @Nat.zero_add⟩⟩ ?_
 rintro n_c env_c st_c ⟨x,rfl,cle,c81,cg0,cg1,cI0,cI1⟩ cfr
 have zj:=cfr 12 (by kernel_rfl);have K4:=cfr 79 (by kernel_rfl);have K5:=cfr 80 (by kernel_rfl)
 simp only[go_sem, ↓reduceIte,Nat.reduceEqDiff,Nat.reduceAdd,Nat.reduceSub,Nat.reduceLeDiff,reduceCtorEq,tX,bg0,b0,b1,b5,xS,tq,l0]at zj K4 K5
 clear cfr
 obtain⟨qz,Qw⟩:=cI0
 have Ob:∀j v,(G j=(⟨320017000,v⟩:Id))=False:=fun j v=>Lk j _ v (by decide)
 have N7:∀j v,(G j=(⟨320025002,v⟩:Id))=False:=fun j v=>Lk j _ v (by decide)
 have N9:∀j v,(G j=(⟨320025001,v⟩:Id))=False:=fun j v=>Lk j _ v (by decide)
 have Oa:∀j v,(G j=(⟨320026007,v⟩:Id))=False:=fun j v=>Lk j _ v (by decide)
 have N8:∀j v,(G j=(⟨320026008,v⟩:Id))=False:=fun j v=>Lk j _ v (by decide)
 by_cases hx:(x:Int)<(cnt:Int)
 ·have iw:∀{e:Env} {gg:Rows} {nx:Nat},(e 81=.int .i64 (IntKind.i64.wrap ((x:Int)+1)))->(gg ⟨320001001,n0+1⟩=some ⟨true,1,mh G cnt cnt⟩)->(gg ⟨320017000,st_b.next+1+1⟩=some ⟨true,mI.pE,kW (x+1) L⟩)->(st_b.next+3<=nx/\tW gg G cnt px)->(((x+1)=0/\e 11=.cm)∨∃o:Id,e 11=.own o 0 (leads (x+1) L).length/\FL gg o (jO (x+1) L) nx)->∃m0,m0<(cnt)-x/\∃x:Nat,m0=(cnt)-x/\x<=(cnt)/\e 81=.int .i64 (x:Int)/\gg ⟨320001001,n0+1⟩=some ⟨true,1,mh G cnt cnt⟩/\gg ⟨320017000,st_b.next+1+1⟩=some ⟨true,mI.pE,kW x L⟩/\(st_b.next+3<=nx/\tW gg G cnt px)/\((x=0/\e 11=.cm)∨∃o:Id,e 11=.own o 0 (leads x L).length/\FL gg o (jO x L) nx):=fun x1 x2 x3 x4 x5=>⟨_,by omega,x+1,rfl,by omega,(by rw[x1,az (by omega)]),x2,x3,x4,x5⟩
  have Qg:x<cnt:=by omega
  have gX:=wU (G:=G) Qg
  have hlx:L x<cnt:=Nat.lt_of_le_of_lt (hL.le _) Qg
  have ra:=Qw _ hlx
  rw[lN (KP.root hL hlx (hL.idem _))]at ra
  have eF:=jR x L
  (try((repeat(revert hN;revert N;apply Pn.out));refine wk (tw @c81 (tw @cg0 (tw @cg1 (tw @zj (tw @K4 (tw @K5 (tw @hx (tw @gX @tl)))))))) ?_;(repeat(refine Pn.mk ?_;intro N hN))))
  refine .inr (bf _ _ _ _ _ (fun r σ1 hq=>?_) (zt G cnt px L KP x Qg _ (Qw.frame fun k hk=>sd @Nat.zero_add)))
  obtain⟨g1,x1⟩:=σ1
  obtain⟨rfl,Dt,Gh⟩:=hq
  (try dsimp only at Dt Gh)
  subst Dt
  refine hN _ _ ?_
  clear hN N
  by_cases hr:L x=x
  ·rw[hr]at ra ⊢
   have ml:=GJ hr
   have SN:(leads (x+1) L).length=(leads x L).length+1:=by rw[gS,if_pos hr];simp
   have Qb:=DS hr
   have SI:=Dm hL hr
   rcases cI1 with⟨rfl,nO⟩|⟨o,nO,cS⟩
   ·have UQ:kW 1 L=[[.int .i64 ((0:Nat):Int),.int .i64 ((0:Nat):Int)]]:=Qb
    (try((repeat(revert hN;revert N;apply Pn.out));refine wk (tw @c81 (tw @cg0 (tw @cg1 (tw @zj (tw @K4 (tw @K5 (tw @nO (tw @ra (tw @ml (tw @l0 (tw @oS (tw @oT (tw @Bool.not_false @Bool.not_true))))))))))))) ?_;(repeat(refine Pn.mk ?_;intro N hN))))
    refine iw ?_ ?_ ?_ (by(try dsimp only);exact⟨by omega,Qw.frame fun k hk=>sd (tw @Ob (tw @N7 (tw @N8 (tw @N9 @Oa))))⟩) (.inr ⟨⟨320025002,x1+1+1+1+1⟩,by simp only[go_sem, ↓reduceIte,Nat.reduceEqDiff,Nat.reduceAdd,Nat.reduceSub,Nat.reduceLeDiff,reduceCtorEq,SN];rfl,by rw[SI];exact Li (v':=x1+1+1+1+1+1) (sd @Nat.zero_add) (sd @eN.eq_1) (by(try dsimp only);omega) (by(try dsimp only);omega)⟩)
    all_goals simp only[go_sem, ↓reduceIte,Nat.reduceEqDiff,Nat.reduceAdd,Nat.reduceSub,Nat.reduceLeDiff,reduceCtorEq,c81,cg0,cg1,zj,K4,K5,UQ]
   ·obtain⟨rows,rG,tH,km⟩:=cS.new x
    rw[qv]at tH
    have xC:o.site=320025002:=by obtain⟨_,_,_,_,_,_,h,_⟩:=cS;exact h
    have yl:o.bY<x1:=by obtain⟨_,_,_,_,_,_,_,h⟩:=cS;omega
    have so:=dP yl
    have Rh:=gH (o:=o) xC (b:=320017000) (v:=st_b.next+1+1) (by decide)
    have P5:=gH (o:=o) xC (b:=320001001) (v:=n0+1) (by decide)
    have Od:∀k,(G k=o)=False:=fun k=>by simp only[eq_iff_iff,iff_false];intro h;have h1:=Sr k;rw[h,xC]at h1;cases h1
    have sN:(rows++[[AV.cm]])[(leads x L).length]? =some [.cm]:=by rw[<-tH];simp
    have uC:∀a:List AV,(rows++[[AV.cm]]).set (leads x L).length a=rows++[a]:=fun a=>by rw[<-tH];simp
    have e1:(leads x L).length+1<=16777216:=by omega
    have e2:((leads x L).length:Int)<(((leads x L).length+1:Nat):Int):=by omega
    (try((repeat(revert hN;revert N;apply Pn.out));refine wk (tw @c81 (tw @cg0 (tw @cg1 (tw @zj (tw @K4 (tw @K5 (tw @nO (tw @ra (tw @ml (tw @rG (tw @tH (tw @so (tw @Rh (tw @sN (tw @uC (tw @e1 (tw @e2 (tw @oS (tw @oT (tw @Bool.not_false @Bool.not_true)))))))))))))))))))) ?_;(repeat(refine Pn.mk ?_;intro N hN))))
    refine iw ?_ ?_ ?_ (by(try dsimp only);exact⟨by omega,Qw.frame fun k hk=>sd (tw @Ob (tw @N7 (tw @N8 (tw @N9 (tw @Oa @Od)))))⟩) (.inr ⟨⟨320025002,x1+1+1+1+1⟩,sd @SN,by rw[SI];exact km _ _ (x1+1+1+1+1+1) _ (by omega) (by(try dsimp only);omega) (by(try dsimp only);omega) (sd @uC) (sd @eN.eq_1) (fun j hj hv=>by
     have q1:=dP (i:=j) (n:=x1) (by omega)
     have q2:=gH hj (b:=320017000) (v:=st_b.next+1+1) (by decide)
     have q3:(j=o)=False:=by simp only[eq_iff_iff,iff_false];intro h;rw[h,xC]at hj;cases hj
     simp only[go_sem, ↓reduceIte,Nat.reduceEqDiff,Nat.reduceAdd,Nat.reduceSub,Nat.reduceLeDiff,reduceCtorEq,q1,q2,q3])⟩)
    all_goals simp only[go_sem, ↓reduceIte,Nat.reduceEqDiff,Nat.reduceAdd,Nat.reduceSub,Nat.reduceLeDiff,reduceCtorEq,c81,cg0,cg1,zj,K4,K5,Qb,so,Rh,P5]
  ·obtain⟨ml,I3,dJ⟩:=yF hL hr
   obtain⟨xg,SI⟩:=Dn hL hr
   have SN:(leads (x+1) L).length=(leads x L).length:=by rw[gS,if_neg hr];simp
   have HC:=DR hr
   rcases cI1 with⟨rfl,nO⟩|⟨o,nO,cS⟩
   ·exact absurd (Nat.le_zero.1 (hL.le 0)) hr
   ·obtain⟨rows,id,rG,tH,hrk,hid,IL,hidv,TW⟩:=cS.add xg x
    rw[qv]at tH
    have xC:o.site=320025002:=by obtain⟨_,_,_,_,_,_,h,_⟩:=cS;exact h
    have yl:o.bY<x1:=by obtain⟨_,_,_,_,_,_,_,h⟩:=cS;omega
    have so:=dP yl
    have vW:=dP (i:=id) (n:=x1) (by omega)
    have jM:(bV L x:Int)<((leads x L).length:Int):=by omega
    have Re:=BY x L (L x)
    have SO:((members x L (L x)).map eN).length=(members x L (L x)).length:=by simp
    have e1:(members x L (L x)).length+1<=16777216:=by omega
    have hoi:(o=id)=False:=by simp only[eq_iff_iff,iff_false];rintro rfl;rw[IL]at xC;cases xC
    have hio:(id=o)=False:=by simp only[eq_iff_iff,iff_false];rintro rfl;rw[IL]at xC;cases xC
    have Rh:=gH (o:=o) xC (b:=320017000) (v:=st_b.next+1+1) (by decide)
    have P5:=gH (o:=o) xC (b:=320001001) (v:=n0+1) (by decide)
    have hiM:=gH (o:=id) IL (b:=320017000) (v:=st_b.next+1+1) (by decide)
    have hiT:=gH (o:=id) IL (b:=320001001) (v:=n0+1) (by decide)
    have Od:∀k,(G k=o)=False:=fun k=>by simp only[eq_iff_iff,iff_false];intro h;have h1:=Sr k;rw[h,xC]at h1;cases h1
    have TH:∀k,(G k=id)=False:=fun k=>by simp only[eq_iff_iff,iff_false];intro h;have h1:=Sr k;rw[h,IL]at h1;cases h1
    (try((repeat(revert hN;revert N;apply Pn.out));refine wk (tw @c81 (tw @cg0 (tw @cg1 (tw @zj (tw @K4 (tw @K5 (tw @nO (tw @ra (tw @ml (tw @I3 (tw @rG (tw @tH (tw @hrk (tw @hid (tw @so (tw @vW (tw @jM (tw @SO (tw @e1 (tw @hoi (tw @hio (tw @Rh (tw @P5 (tw @hiM (tw @hiT (tw @oS (tw @oT (tw @Bool.not_false @Bool.not_true)))))))))))))))))))))))))))) ?_;(repeat(refine Pn.mk ?_;intro N hN))))
    refine iw ?_ ?_ ?_ (by(try dsimp only);exact⟨by omega,Qw.frame fun k hk=>sd (tw @Ob (tw @N7 (tw @N8 (tw @N9 (tw @Oa (tw @Od @TH))))))⟩) (.inr ⟨o,sd (tw @SN @nO),by rw[SI];exact TW _ (x1+1+1) _ (by omega) (by(try dsimp only);omega) (sd @Nat.zero_add) (sd (tw @so (tw @vW (tw @hoi @hio)))) (fun j hj hv mV=>by
     have q1:=dP (i:=j) (n:=x1) (by omega)
     have q2:=gH hj (b:=320017000) (v:=st_b.next+1+1) (by decide)
     have q3:(j=o)=False:=by simp only[eq_iff_iff,iff_false];intro h;rw[h,xC]at hj;cases hj
     simp only[go_sem, ↓reduceIte,Nat.reduceEqDiff,Nat.reduceAdd,Nat.reduceSub,Nat.reduceLeDiff,reduceCtorEq,q1,q2,q3,mV])⟩)
    all_goals simp only[go_sem, ↓reduceIte,Nat.reduceEqDiff,Nat.reduceAdd,Nat.reduceSub,Nat.reduceLeDiff,reduceCtorEq,c81,cg0,cg1,zj,K4,K5,HC,so,vW,Rh,P5,hiM,hiT]
 have U0:x=cnt:=by omega
 rcases cI1 with⟨h0,_⟩|⟨o,nO,rows,ids,rG,hR,_,_,_,_⟩
 ·omega
 have tH:=hR.len
 rw[qv]at tH
 (try((repeat(revert hN;revert N;apply Pn.out));refine wk (tw @c81 (tw @cg0 (tw @cg1 (tw @zj (tw @K4 (tw @K5 (tw @hx (tw @nO @rG)))))))) ?_;(repeat(refine Pn.mk ?_;intro N hN))))
 refine wM (.inl rfl) (by simp only[go_sem, ↓reduceIte,Nat.reduceEqDiff,Nat.reduceAdd,Nat.reduceSub,Nat.reduceLeDiff,reduceCtorEq];rfl) ?_
 rw[rC rG (by omega) (rows':=(fB cnt L).map AG) (by
  rw[List.drop_zero,List.take_of_length_le (by omega)]
  rw[U0]at hR;exact Jr 3 hR)]
end Go.Proofs.YtgoljkjaameagaaGreat.V
