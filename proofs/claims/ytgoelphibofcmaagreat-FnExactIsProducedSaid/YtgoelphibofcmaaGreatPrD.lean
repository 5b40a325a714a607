/- The reference's networks: one is made. -/
import Derived.Test.YtgoelphibofcmaaGreatPrC
import Derived.Test.YtgoelphibofcmaaGreatPrB
import Derived.Test.YtgoelphibofcmaaGreatChecked
import Derived.Shelf.SlSortCmp.WholeK
import Derived.Shelf.SlSortCmp.NoneTotal
import Derived.Ground.SlsfProg
import Derived.Test.YtgoelphibofcmaaGreatProg
import Derived.Maps.RangeRun
set_option linter.unusedVariables false
set_option linter.unusedSimpArgs false
set_option maxRecDepth 100000
set_option maxHeartbeats 16000000
namespace Go.Proofs.YtgoelphibofcmaaGreat.V
open Go.RowKit
attribute [local irreducible] dx wpOps gp Call
attribute [local go_sem] aH fC eG fW fV cF upd cj K.av cJ AV.cells AV.cell rowOf rowsOf part ld rowAt bj bY dz eb gT bE cZ er fS eU dp eh cX cW dR dS bH aW cN bG cQ cP ee ei ef cL bP cY ec bF aL cU cw gS bl cG bI aP dd aU dB AV.undef bw bB dV ea dI dG cE ep ev cq ek ej cR cV List.getD_cons_zero List.getD_cons_succ List.getD_nil List.all_cons List.all_nil Bool.and_true Bool.true_and Bool.and_self Bool.not_true Bool.not_false Option.map_some Option.map_none Option.bind_some Option.bind_none List.length_cons List.length_nil List.take_succ_cons List.take_zero List.take_nil List.drop_succ_cons List.drop_zero List.drop_nil List.head?_cons List.map_cons List.map_nil List.getElem?_cons_zero List.getElem?_cons_succ List.cons_append List.nil_append List.append_nil List.length_map List.set_cons_zero List.set_cons_succ Nat.reduceMul eq_self Int.toNat_natCast Int.natCast_nonneg and_self true_and and_true decide_true decide_false Bool.false_eq_true Nat.zero_add Nat.add_zero List.contains_cons List.contains_nil Bool.or_false Bool.false_or beq_self_eq_true Nat.reduceBEq ne_eq not_true_eq_false not_false_eq_true Id.mk.injEq false_and and_false Nat.reduceLT Int.reduceLE Int.reduceLT Int.reduceToNat Int.reduceNeg Int.reduceAdd Nat.le_refl List.length_append beq_true beq_false Bool.not_eq_eq_eq_not or_false false_or dO ah aq aI aZ bt ck aS bf aO aY cK bK
theorem Hk (cnt:Nat) (hn:cnt<=1048576) (bs:List PB) (ok:mj cnt bs) (oQ:bs.length<=1048576) (σ:ar):
  Call Tryz.prog 237 [.int .i64 cnt,.sl (bs.map aw)] σ fun r σ'=>∃X A F,r=.ptr X 0 0/\σ.next<=X.bQ/\nj cnt bs (fun _=>0) X A F σ'.get σ'.next:=by
 refine FV Lq rfl fun hl=>?_
 try simp only[q]
 clear hl
 have jk:(0:Int)<=(cnt:Int):=by omega
 have oR:(cnt:Int)<=((16777216:Nat):Int):=by omega
 have Og:(0:Int)<=(bs.length:Int):=by omega
 have KC:(bs.length:Int)<=((16777216:Nat):Int):=by omega
 have hz:List.replicate bs.length [AV.int .i64 0]=dH (fun _=>0) bs.length:=by
  refine List.ext_getElem? fun i=>?_
  by_cases h:i<bs.length
  ·rw[dC h,List.getElem?_replicate,if_pos h];rfl
  ·rw[List.getElem?_eq_none (by simp;omega),List.getElem?_eq_none (by rw[dt];omega)]
 (try((repeat(revert hN;revert N;apply Pn.out));refine wk (tw @jk (tw @oR (tw @Og (tw @KC (tw @Int.le_refl @hz))))) ?_;(repeat(refine Pn.mk ?_;intro N hN))))
 obtain⟨X,hX⟩:∃X:Id,X=⟨237001003,σ.next+1⟩:=⟨_,rfl⟩
 obtain⟨A,hA⟩:∃X:Id,X=⟨237002002,σ.next+1+1⟩:=⟨_,rfl⟩
 obtain⟨F,hF⟩:∃X:Id,X=⟨237003003,σ.next+1+1+1⟩:=⟨_,rfl⟩
 have hXA:X.bQ<A.bQ:=by rw[hX,hA];(try dsimp only);omega
 have hAF:A.bQ<F.bQ:=by rw[hA,hF];(try dsimp only);omega
 have hXs:σ.next<=X.bQ:=by rw[hX];(try dsimp only);omega
 refine aQ (fun n env st=>∃j:Nat,n=(bs.length)-j/\j<=(bs.length)/\env 6=.int .i64 (j:Int)/\env 5=(.ptr X 0 0)/\st.get X=some ⟨true,4,[bh cnt bs A F]⟩/\st.get F=some ⟨true,1,dH (fun _=>0) bs.length⟩/\(pP A F.bQ (kH cnt bs j) st.get st.next/\F.bQ<st.next)) (bs.length) ⟨0,by omega,by omega,by(try simp only[go_sem, ↓reduceIte,Nat.reduceEqDiff,Nat.reduceAdd,Nat.reduceSub,Nat.reduceLeDiff,reduceCtorEq,hX,hF,hA,bh,hz]);try rfl,by(try simp only[go_sem, ↓reduceIte,Nat.reduceEqDiff,Nat.reduceAdd,Nat.reduceSub,Nat.reduceLeDiff,reduceCtorEq,hX,hF,hA,bh,hz]);try rfl,by(try simp only[go_sem, ↓reduceIte,Nat.reduceEqDiff,Nat.reduceAdd,Nat.reduceSub,Nat.reduceLeDiff,reduceCtorEq,hX,hF,hA,bh,hz]);try rfl,by(try simp only[go_sem, ↓reduceIte,Nat.reduceEqDiff,Nat.reduceAdd,Nat.reduceSub,Nat.reduceLeDiff,reduceCtorEq,hX,hF,hA,bh,hz]);try rfl,⟨⟨List.replicate cnt [.b4],[],by rw[hA];(simp only[go_sem, ↓reduceIte,Nat.reduceEqDiff,Nat.reduceAdd,Nat.reduceSub,Nat.reduceLeDiff,reduceCtorEq])<;>rfl,by rw[EJ];exact xz _ _,List.nodup_nil,fun i hi=>by cases hi⟩,by rw[hF];(try dsimp only);omega⟩⟩ ?_
 rintro n_a env_a st_a ⟨j,rfl,ale,a6,a5,ag0,ag1,pU⟩ dY
 have a0:=dY 0 (by kernel_rfl);have a1:=dY 1 (by kernel_rfl)
 simp only[go_sem, ↓reduceIte,Nat.reduceEqDiff,Nat.reduceAdd,Nat.reduceSub,Nat.reduceLeDiff,reduceCtorEq,hX,hF,hA,bh,hz]at a0 a1
 clear dY
 obtain⟨⟨rows,ids,ag,hR,oe,mU⟩,hFn⟩:=pU
 have x1:=cr hXA
 have x2:=cr hAF
 have x3:=cr (a:=X) (b:=F) (by omega)
 have vX:=dD (i:=X) (n:=st_a.next) (by omega)
 have vA:=dD (i:=A) (n:=st_a.next) (by omega)
 have vF:=dD (i:=F) (n:=st_a.next) (by omega)
 by_cases hj:(j:Int)<(bs.length:Int)
 ·have cH:∀{e:Env} {gg:Rows} {nx:Nat},(e 6=.int .i64 (IntKind.i64.wrap ((j:Int)+1)))->(e 5=(.ptr X 0 0))->(gg X=some ⟨true,4,[bh cnt bs A F]⟩)->(gg F=some ⟨true,1,dH (fun _=>0) bs.length⟩)->(pP A F.bQ (kH cnt bs (j+1)) gg nx/\F.bQ<nx)->∃m0,m0<(bs.length)-j/\∃j:Nat,m0=(bs.length)-j/\j<=(bs.length)/\e 6=.int .i64 (j:Int)/\e 5=(.ptr X 0 0)/\gg X=some ⟨true,4,[bh cnt bs A F]⟩/\gg F=some ⟨true,1,dH (fun _=>0) bs.length⟩/\(pP A F.bQ (kH cnt bs j) gg nx/\F.bQ<nx):=fun x1 x2 x3 x4 x5=>⟨_,by omega,j+1,rfl,by omega,(by rw[x1,aA (by omega)]),x2,x3,x4,x5⟩
  have mW:j<bs.length:=by omega
  have iq:=sY mW
  obtain⟨ha1,Oh,gI⟩:=ok j mW
  have gq:((bU bs j).a:Int)<(cnt:Int):=by omega
  have fA:((bU bs j).b:Int)<(cnt:Int):=by omega
  have pr:=EI (m:=j) ha1 Oh gI
  have e1:=qj bs j (bU bs j).a
  have e2:=qj bs j (bU bs j).b
  have OC:(v7 cnt bs j)[(bU bs j).b]? =some (iC bs j (bU bs j).b):=Aj Oh gI
  have OB:(kH cnt bs j)[(bU bs j).a]? =some (iC bs j (bU bs j).a):=by simp[kH,ha1]
  have Q7:v7 cnt bs j=(kH cnt bs j).set (bU bs j).a (iC bs j (bU bs j).a++[j]):=rfl
  have Qa:(v7 cnt bs j).length=cnt:=by rw[Q7,List.length_set,iY]
  have iO:=hR.len
  rw[iY]at iO
  obtain⟨cs7,iW,GN,G2⟩:=DG (A:=A) (K:=⟨237007022,st_a.next+1⟩) (nx:=st_a.next+1+1) (j:=j) hR oe mU (by omega) OB (by(try dsimp only);omega) (by(try dsimp only);omega) hFn
  rw[<-Q7]at G2
  obtain⟨c7,rfl⟩:∃c,cs7=[c]:=by
   rcases GN with⟨_,h⟩|⟨id,h,_⟩<;>exact⟨_,h⟩
  generalize iC bs j (bU bs j).a=La at *
  generalize iC bs j (bU bs j).b=Lb at *
  generalize bU bs j=b at *
  generalize v7 cnt bs j=LA at *
  clear Q7
  (try((repeat(revert hN;revert N;apply Pn.out));refine wk (tw @a6 (tw @a5 (tw @ag0 (tw @ag1 (tw @a0 (tw @a1 (tw @hj (tw @iq (tw @aw.eq_1 (tw @ag (tw @iW (tw @gq (tw @fA (tw @iO (tw @x1 (tw @x2 (tw @x3 (tw @vX (tw @vA (tw @vF @bh.eq_1)))))))))))))))))))) ?_;(repeat(refine Pn.mk ?_;intro N hN))))
  refine Iv (fun e s=>e 0=.int .i64 cnt/\e 1=.sl (bs.map aw)/\e 5=.ptr X 0 0/\e 6=.int .i64 j/\s.get X=some ⟨true,4,[bh cnt bs A F]⟩/\s.get F=some ⟨true,1,dH (fun _=>0) bs.length⟩/\pP A F.bQ LA s.get s.next/\F.bQ<s.next) ?_ ?_
  ·rintro e1 s1 ⟨m0,m1,m5,m6,mX,mF,⟨rows1,ids1,mg,mR,mnd,mver⟩,mn⟩
   refine hN _ _ ?_
   clear hN N
   have iP:=mR.len
   rw[Qa]at iP
   have wX:=dD (i:=X) (n:=s1.next) (by omega)
   have wA:=dD (i:=A) (n:=s1.next) (by omega)
   have wF:=dD (i:=F) (n:=s1.next) (by omega)
   obtain⟨cs8,iX,GO,G3⟩:=DG (A:=A) (K:=⟨237008022,s1.next⟩) (nx:=s1.next+1) (j:=j) mR mnd mver (by omega) OC (by(try dsimp only);omega) (by(try dsimp only);omega) mn
   rw[pr]at G3
   obtain⟨c8,rfl⟩:∃c,cs8=[c]:=by
    rcases GO with⟨_,h⟩|⟨id,h,_⟩<;>exact⟨_,h⟩
   (try((repeat(revert hN;revert N;apply Pn.out));refine wk (tw @m0 (tw @m1 (tw @m5 (tw @m6 (tw @mX (tw @mF (tw @hj (tw @iq (tw @aw.eq_1 (tw @mg (tw @iX (tw @gq (tw @fA (tw @iP (tw @x1 (tw @x2 (tw @x3 (tw @wX (tw @wA (tw @wF @bh.eq_1)))))))))))))))))))) ?_;(repeat(refine Pn.mk ?_;intro N hN))))
   refine Ki (fun e s=>e 0=.int .i64 cnt/\e 1=.sl (bs.map aw)/\e 5=.ptr X 0 0/\e 6=.int .i64 j/\s.get X=some ⟨true,4,[bh cnt bs A F]⟩/\s.get F=some ⟨true,1,dH (fun _=>0) bs.length⟩/\pP A F.bQ (kH cnt bs (j+1)) s.get s.next/\F.bQ<s.next) ?_ ?_
   ·rintro e2 s2 ⟨p0,p1,p5,p6,pX,pF,pL,pn⟩
    simp only[dd,aU]
    refine hN _ _ ?_
    clear hN N
    (try((repeat(revert hN;revert N;apply Pn.out));refine wk (tw @p0 (tw @p1 (tw @p5 @p6))) ?_;(repeat(refine Pn.mk ?_;intro N hN))))
    refine cH ?_ ?_ ?_ ?_ (⟨by obtain⟨r,i,q1,q2,q3,q4⟩:=pL;exact⟨r,i,sd @q1,q2,q3,fun x hx=>by have:=q4 x hx;(try dsimp only);omega⟩,by(try dsimp only);omega⟩)
    all_goals simp only[go_sem, ↓reduceIte,Nat.reduceEqDiff,Nat.reduceAdd,Nat.reduceSub,Nat.reduceLeDiff,reduceCtorEq,p0,p1,p5,p6,pX,pF]
   ·intro N hN
    rcases GO with⟨Rl,zW⟩|⟨id,zW,hLp,hid,Jn,wP⟩
    ·simp only[List.cons.injEq,and_true]at zW
     subst zW
     subst Rl
     refine eT ?_ ?_<;>(try((repeat(revert hN;revert N;apply Pn.out));refine wk (tw @m0 (tw @m1 (tw @m5 (tw @m6 (tw @mX (tw @mF (tw @hj (tw @iq (tw @aw.eq_1 (tw @mg (tw @iX (tw @gq (tw @fA (tw @iP (tw @x1 (tw @x2 (tw @x3 (tw @wX (tw @wA (tw @wF @bh.eq_1)))))))))))))))))))) ?_;(repeat(refine Pn.mk ?_;intro N hN))))<;>(try refine eT ?_ ?_)<;>(try((repeat(revert hN;revert N;apply Pn.out));refine wk (tw @m0 (tw @m1 (tw @m5 (tw @m6 (tw @mX (tw @mF (tw @hj (tw @iq (tw @aw.eq_1 (tw @mg (tw @iX (tw @gq (tw @fA (tw @iP (tw @x1 (tw @x2 (tw @x3 (tw @wX (tw @wA (tw @wF @bh.eq_1)))))))))))))))))))) ?_;(repeat(refine Pn.mk ?_;intro N hN))))<;>(try refine eT ?_ ?_)<;>(try((repeat(revert hN;revert N;apply Pn.out));refine wk (tw @m0 (tw @m1 (tw @m5 (tw @m6 (tw @mX (tw @mF (tw @hj (tw @iq (tw @aw.eq_1 (tw @mg (tw @iX (tw @gq (tw @fA (tw @iP (tw @x1 (tw @x2 (tw @x3 (tw @wX (tw @wA (tw @wF @bh.eq_1)))))))))))))))))))) ?_;(repeat(refine Pn.mk ?_;intro N hN))))<;>(try refine eT ?_ ?_)<;>(try((repeat(revert hN;revert N;apply Pn.out));refine wk (tw @m0 (tw @m1 (tw @m5 (tw @m6 (tw @mX (tw @mF (tw @hj (tw @iq (tw @aw.eq_1 (tw @mg (tw @iX (tw @gq (tw @fA (tw @iP (tw @x1 (tw @x2 (tw @x3 (tw @wX (tw @wA (tw @wF @bh.eq_1)))))))))))))))))))) ?_;(repeat(refine Pn.mk ?_;intro N hN))))<;>(try refine eT ?_ ?_)<;>(try((repeat(revert hN;revert N;apply Pn.out));refine wk (tw @m0 (tw @m1 (tw @m5 (tw @m6 (tw @mX (tw @mF (tw @hj (tw @iq (tw @aw.eq_1 (tw @mg (tw @iX (tw @gq (tw @fA (tw @iP (tw @x1 (tw @x2 (tw @x3 (tw @wX (tw @wA (tw @wF @bh.eq_1)))))))))))))))))))) ?_;(repeat(refine Pn.mk ?_;intro N hN))))<;>(try refine eT ?_ ?_)<;>(try((repeat(revert hN;revert N;apply Pn.out));refine wk (tw @m0 (tw @m1 (tw @m5 (tw @m6 (tw @mX (tw @mF (tw @hj (tw @iq (tw @aw.eq_1 (tw @mg (tw @iX (tw @gq (tw @fA (tw @iP (tw @x1 (tw @x2 (tw @x3 (tw @wX (tw @wA (tw @wF @bh.eq_1)))))))))))))))))))) ?_;(repeat(refine Pn.mk ?_;intro N hN))))
     all_goals
      refine⟨by simp only[go_sem, ↓reduceIte,Nat.reduceEqDiff,Nat.reduceAdd,Nat.reduceSub,Nat.reduceLeDiff,reduceCtorEq,m0,m1,m5,m6,mX,mF,hj,iq,aw,mg,iX,gq,fA,iP,x1,x2,x3,wX,wA,wF,bh],by simp only[go_sem, ↓reduceIte,Nat.reduceEqDiff,Nat.reduceAdd,Nat.reduceSub,Nat.reduceLeDiff,reduceCtorEq,m0,m1,m5,m6,mX,mF,hj,iq,aw,mg,iX,gq,fA,iP,x1,x2,x3,wX,wA,wF,bh],by simp only[go_sem, ↓reduceIte,Nat.reduceEqDiff,Nat.reduceAdd,Nat.reduceSub,Nat.reduceLeDiff,reduceCtorEq,m0,m1,m5,m6,mX,mF,hj,iq,aw,mg,iX,gq,fA,iP,x1,x2,x3,wX,wA,wF,bh],by simp only[go_sem, ↓reduceIte,Nat.reduceEqDiff,Nat.reduceAdd,Nat.reduceSub,Nat.reduceLeDiff,reduceCtorEq,m0,m1,m5,m6,mX,mF,hj,iq,aw,mg,iX,gq,fA,iP,x1,x2,x3,wX,wA,wF,bh],by simp only[go_sem, ↓reduceIte,Nat.reduceEqDiff,Nat.reduceAdd,Nat.reduceSub,Nat.reduceLeDiff,reduceCtorEq,m0,m1,m5,m6,mX,mF,hj,iq,aw,mg,iX,gq,fA,iP,x1,x2,x3,wX,wA,wF,bh],by simp only[go_sem, ↓reduceIte,Nat.reduceEqDiff,Nat.reduceAdd,Nat.reduceSub,Nat.reduceLeDiff,reduceCtorEq,m0,m1,m5,m6,mX,mF,hj,iq,aw,mg,iX,gq,fA,iP,x1,x2,x3,wX,wA,wF,bh],G3 _ (by simp only[go_sem, ↓reduceIte,Nat.reduceEqDiff,Nat.reduceAdd,Nat.reduceSub,Nat.reduceLeDiff,reduceCtorEq,m0,m1,m5,m6,mX,mF,hj,iq,aw,mg,iX,gq,fA,iP,x1,x2,x3,wX,wA,wF,bh,List.length_nil]) (by simp only[go_sem, ↓reduceIte,Nat.reduceEqDiff,Nat.reduceAdd,Nat.reduceSub,Nat.reduceLeDiff,reduceCtorEq,m0,m1,m5,m6,mX,mF,hj,iq,aw,mg,iX,gq,fA,iP,x1,x2,x3,wX,wA,wF,bh,List.map_nil,List.nil_append]) (fun i hi L1 e9=>?_),by(try dsimp only);omega⟩
      clear e9
      simp only[go_sem, ↓reduceIte,Nat.reduceEqDiff,Nat.reduceAdd,Nat.reduceSub,Nat.reduceLeDiff,reduceCtorEq,wX,wA,wF,dD hi,L1]
    ·simp only[List.cons.injEq,and_true]at zW
     subst zW
     have qK:=dD Jn
     have y1:=cr (a:=A) (b:=id) (by omega)
     have y2:=cr (a:=F) (b:=id) wP
     have y3:=cr (a:=X) (b:=id) (by omega)
     have e3:Lb.length+1<=16777216:=by omega
     have z1:(Lb.map eN).length=Lb.length:=by simp
     refine eT ?_ ?_<;>(try((repeat(revert hN;revert N;apply Pn.out));refine wk (tw @m0 (tw @m1 (tw @m5 (tw @m6 (tw @mX (tw @mF (tw @hj (tw @iq (tw @aw.eq_1 (tw @mg (tw @iX (tw @gq (tw @fA (tw @iP (tw @x1 (tw @x2 (tw @x3 (tw @wX (tw @wA (tw @wF (tw @bh.eq_1 (tw @hid (tw @qK (tw @y1 (tw @y2 (tw @y3 (tw @e3 @z1))))))))))))))))))))))))))) ?_;(repeat(refine Pn.mk ?_;intro N hN))))<;>(try refine eT ?_ ?_)<;>(try((repeat(revert hN;revert N;apply Pn.out));refine wk (tw @m0 (tw @m1 (tw @m5 (tw @m6 (tw @mX (tw @mF (tw @hj (tw @iq (tw @aw.eq_1 (tw @mg (tw @iX (tw @gq (tw @fA (tw @iP (tw @x1 (tw @x2 (tw @x3 (tw @wX (tw @wA (tw @wF (tw @bh.eq_1 (tw @hid (tw @qK (tw @y1 (tw @y2 (tw @y3 (tw @e3 @z1))))))))))))))))))))))))))) ?_;(repeat(refine Pn.mk ?_;intro N hN))))<;>(try refine eT ?_ ?_)<;>(try((repeat(revert hN;revert N;apply Pn.out));refine wk (tw @m0 (tw @m1 (tw @m5 (tw @m6 (tw @mX (tw @mF (tw @hj (tw @iq (tw @aw.eq_1 (tw @mg (tw @iX (tw @gq (tw @fA (tw @iP (tw @x1 (tw @x2 (tw @x3 (tw @wX (tw @wA (tw @wF (tw @bh.eq_1 (tw @hid (tw @qK (tw @y1 (tw @y2 (tw @y3 (tw @e3 @z1))))))))))))))))))))))))))) ?_;(repeat(refine Pn.mk ?_;intro N hN))))<;>(try refine eT ?_ ?_)<;>(try((repeat(revert hN;revert N;apply Pn.out));refine wk (tw @m0 (tw @m1 (tw @m5 (tw @m6 (tw @mX (tw @mF (tw @hj (tw @iq (tw @aw.eq_1 (tw @mg (tw @iX (tw @gq (tw @fA (tw @iP (tw @x1 (tw @x2 (tw @x3 (tw @wX (tw @wA (tw @wF (tw @bh.eq_1 (tw @hid (tw @qK (tw @y1 (tw @y2 (tw @y3 (tw @e3 @z1))))))))))))))))))))))))))) ?_;(repeat(refine Pn.mk ?_;intro N hN))))<;>(try refine eT ?_ ?_)<;>(try((repeat(revert hN;revert N;apply Pn.out));refine wk (tw @m0 (tw @m1 (tw @m5 (tw @m6 (tw @mX (tw @mF (tw @hj (tw @iq (tw @aw.eq_1 (tw @mg (tw @iX (tw @gq (tw @fA (tw @iP (tw @x1 (tw @x2 (tw @x3 (tw @wX (tw @wA (tw @wF (tw @bh.eq_1 (tw @hid (tw @qK (tw @y1 (tw @y2 (tw @y3 (tw @e3 @z1))))))))))))))))))))))))))) ?_;(repeat(refine Pn.mk ?_;intro N hN))))<;>(try refine eT ?_ ?_)<;>(try((repeat(revert hN;revert N;apply Pn.out));refine wk (tw @m0 (tw @m1 (tw @m5 (tw @m6 (tw @mX (tw @mF (tw @hj (tw @iq (tw @aw.eq_1 (tw @mg (tw @iX (tw @gq (tw @fA (tw @iP (tw @x1 (tw @x2 (tw @x3 (tw @wX (tw @wA (tw @wF (tw @bh.eq_1 (tw @hid (tw @qK (tw @y1 (tw @y2 (tw @y3 (tw @e3 @z1))))))))))))))))))))))))))) ?_;(repeat(refine Pn.mk ?_;intro N hN))))
     all_goals
      refine⟨by simp only[go_sem, ↓reduceIte,Nat.reduceEqDiff,Nat.reduceAdd,Nat.reduceSub,Nat.reduceLeDiff,reduceCtorEq,m0,m1,m5,m6,mX,mF,hj,iq,aw,mg,iX,gq,fA,iP,x1,x2,x3,wX,wA,wF,bh,hid,qK,y1,y2,y3,e3,z1],by simp only[go_sem, ↓reduceIte,Nat.reduceEqDiff,Nat.reduceAdd,Nat.reduceSub,Nat.reduceLeDiff,reduceCtorEq,m0,m1,m5,m6,mX,mF,hj,iq,aw,mg,iX,gq,fA,iP,x1,x2,x3,wX,wA,wF,bh,hid,qK,y1,y2,y3,e3,z1],by simp only[go_sem, ↓reduceIte,Nat.reduceEqDiff,Nat.reduceAdd,Nat.reduceSub,Nat.reduceLeDiff,reduceCtorEq,m0,m1,m5,m6,mX,mF,hj,iq,aw,mg,iX,gq,fA,iP,x1,x2,x3,wX,wA,wF,bh,hid,qK,y1,y2,y3,e3,z1],by simp only[go_sem, ↓reduceIte,Nat.reduceEqDiff,Nat.reduceAdd,Nat.reduceSub,Nat.reduceLeDiff,reduceCtorEq,m0,m1,m5,m6,mX,mF,hj,iq,aw,mg,iX,gq,fA,iP,x1,x2,x3,wX,wA,wF,bh,hid,qK,y1,y2,y3,e3,z1],by simp only[go_sem, ↓reduceIte,Nat.reduceEqDiff,Nat.reduceAdd,Nat.reduceSub,Nat.reduceLeDiff,reduceCtorEq,m0,m1,m5,m6,mX,mF,hj,iq,aw,mg,iX,gq,fA,iP,x1,x2,x3,wX,wA,wF,bh,hid,qK,y1,y2,y3,e3,z1],by simp only[go_sem, ↓reduceIte,Nat.reduceEqDiff,Nat.reduceAdd,Nat.reduceSub,Nat.reduceLeDiff,reduceCtorEq,m0,m1,m5,m6,mX,mF,hj,iq,aw,mg,iX,gq,fA,iP,x1,x2,x3,wX,wA,wF,bh,hid,qK,y1,y2,y3,e3,z1],G3 _ (by simp only[go_sem, ↓reduceIte,Nat.reduceEqDiff,Nat.reduceAdd,Nat.reduceSub,Nat.reduceLeDiff,reduceCtorEq,m0,m1,m5,m6,mX,mF,hj,iq,aw,mg,iX,gq,fA,iP,x1,x2,x3,wX,wA,wF,bh,hid,qK,y1,y2,y3,e3,z1,List.length_nil]) (by simp only[go_sem, ↓reduceIte,Nat.reduceEqDiff,Nat.reduceAdd,Nat.reduceSub,Nat.reduceLeDiff,reduceCtorEq,m0,m1,m5,m6,mX,mF,hj,iq,aw,mg,iX,gq,fA,iP,x1,x2,x3,wX,wA,wF,bh,hid,qK,y1,y2,y3,e3,z1,List.map_nil,List.nil_append]) (fun i hi L1 e9=>?_),by(try dsimp only);omega⟩
      have gI:=e9 id rfl
      simp only[go_sem, ↓reduceIte,Nat.reduceEqDiff,Nat.reduceAdd,Nat.reduceSub,Nat.reduceLeDiff,reduceCtorEq,wX,wA,wF,dD hi,L1,gI]
  ·intro N hN
   rcases GN with⟨Rl,zW⟩|⟨id,zW,hLp,hid,Jn,wP⟩
   ·simp only[List.cons.injEq,and_true]at zW
    subst zW
    subst Rl
    refine eT ?_ ?_<;>(try((repeat(revert hN;revert N;apply Pn.out));refine wk (tw @a6 (tw @a5 (tw @ag0 (tw @ag1 (tw @a0 (tw @a1 (tw @hj (tw @iq (tw @aw.eq_1 (tw @ag (tw @iW (tw @gq (tw @fA (tw @iO (tw @x1 (tw @x2 (tw @x3 (tw @vX (tw @vA (tw @vF @bh.eq_1)))))))))))))))))))) ?_;(repeat(refine Pn.mk ?_;intro N hN))))<;>(try refine eT ?_ ?_)<;>(try((repeat(revert hN;revert N;apply Pn.out));refine wk (tw @a6 (tw @a5 (tw @ag0 (tw @ag1 (tw @a0 (tw @a1 (tw @hj (tw @iq (tw @aw.eq_1 (tw @ag (tw @iW (tw @gq (tw @fA (tw @iO (tw @x1 (tw @x2 (tw @x3 (tw @vX (tw @vA (tw @vF @bh.eq_1)))))))))))))))))))) ?_;(repeat(refine Pn.mk ?_;intro N hN))))<;>(try refine eT ?_ ?_)<;>(try((repeat(revert hN;revert N;apply Pn.out));refine wk (tw @a6 (tw @a5 (tw @ag0 (tw @ag1 (tw @a0 (tw @a1 (tw @hj (tw @iq (tw @aw.eq_1 (tw @ag (tw @iW (tw @gq (tw @fA (tw @iO (tw @x1 (tw @x2 (tw @x3 (tw @vX (tw @vA (tw @vF @bh.eq_1)))))))))))))))))))) ?_;(repeat(refine Pn.mk ?_;intro N hN))))<;>(try refine eT ?_ ?_)<;>(try((repeat(revert hN;revert N;apply Pn.out));refine wk (tw @a6 (tw @a5 (tw @ag0 (tw @ag1 (tw @a0 (tw @a1 (tw @hj (tw @iq (tw @aw.eq_1 (tw @ag (tw @iW (tw @gq (tw @fA (tw @iO (tw @x1 (tw @x2 (tw @x3 (tw @vX (tw @vA (tw @vF @bh.eq_1)))))))))))))))))))) ?_;(repeat(refine Pn.mk ?_;intro N hN))))<;>(try refine eT ?_ ?_)<;>(try((repeat(revert hN;revert N;apply Pn.out));refine wk (tw @a6 (tw @a5 (tw @ag0 (tw @ag1 (tw @a0 (tw @a1 (tw @hj (tw @iq (tw @aw.eq_1 (tw @ag (tw @iW (tw @gq (tw @fA (tw @iO (tw @x1 (tw @x2 (tw @x3 (tw @vX (tw @vA (tw @vF @bh.eq_1)))))))))))))))))))) ?_;(repeat(refine Pn.mk ?_;intro N hN))))<;>(try refine eT ?_ ?_)<;>(try((repeat(revert hN;revert N;apply Pn.out));refine wk (tw @a6 (tw @a5 (tw @ag0 (tw @ag1 (tw @a0 (tw @a1 (tw @hj (tw @iq (tw @aw.eq_1 (tw @ag (tw @iW (tw @gq (tw @fA (tw @iO (tw @x1 (tw @x2 (tw @x3 (tw @vX (tw @vA (tw @vF @bh.eq_1)))))))))))))))))))) ?_;(repeat(refine Pn.mk ?_;intro N hN))))
    all_goals
     refine⟨by simp only[go_sem, ↓reduceIte,Nat.reduceEqDiff,Nat.reduceAdd,Nat.reduceSub,Nat.reduceLeDiff,reduceCtorEq,a6,a5,ag0,ag1,a0,a1,hj,iq,aw,ag,iW,gq,fA,iO,x1,x2,x3,vX,vA,vF,bh],by simp only[go_sem, ↓reduceIte,Nat.reduceEqDiff,Nat.reduceAdd,Nat.reduceSub,Nat.reduceLeDiff,reduceCtorEq,a6,a5,ag0,ag1,a0,a1,hj,iq,aw,ag,iW,gq,fA,iO,x1,x2,x3,vX,vA,vF,bh],by simp only[go_sem, ↓reduceIte,Nat.reduceEqDiff,Nat.reduceAdd,Nat.reduceSub,Nat.reduceLeDiff,reduceCtorEq,a6,a5,ag0,ag1,a0,a1,hj,iq,aw,ag,iW,gq,fA,iO,x1,x2,x3,vX,vA,vF,bh],by simp only[go_sem, ↓reduceIte,Nat.reduceEqDiff,Nat.reduceAdd,Nat.reduceSub,Nat.reduceLeDiff,reduceCtorEq,a6,a5,ag0,ag1,a0,a1,hj,iq,aw,ag,iW,gq,fA,iO,x1,x2,x3,vX,vA,vF,bh],by simp only[go_sem, ↓reduceIte,Nat.reduceEqDiff,Nat.reduceAdd,Nat.reduceSub,Nat.reduceLeDiff,reduceCtorEq,a6,a5,ag0,ag1,a0,a1,hj,iq,aw,ag,iW,gq,fA,iO,x1,x2,x3,vX,vA,vF,bh],by simp only[go_sem, ↓reduceIte,Nat.reduceEqDiff,Nat.reduceAdd,Nat.reduceSub,Nat.reduceLeDiff,reduceCtorEq,a6,a5,ag0,ag1,a0,a1,hj,iq,aw,ag,iW,gq,fA,iO,x1,x2,x3,vX,vA,vF,bh],G2 _ (by simp only[go_sem, ↓reduceIte,Nat.reduceEqDiff,Nat.reduceAdd,Nat.reduceSub,Nat.reduceLeDiff,reduceCtorEq,a6,a5,ag0,ag1,a0,a1,hj,iq,aw,ag,iW,gq,fA,iO,x1,x2,x3,vX,vA,vF,bh,List.length_nil]) (by simp only[go_sem, ↓reduceIte,Nat.reduceEqDiff,Nat.reduceAdd,Nat.reduceSub,Nat.reduceLeDiff,reduceCtorEq,a6,a5,ag0,ag1,a0,a1,hj,iq,aw,ag,iW,gq,fA,iO,x1,x2,x3,vX,vA,vF,bh,List.map_nil,List.nil_append]) (fun i hi L1 e9=>?_),by(try dsimp only);omega⟩
     clear e9
     simp only[go_sem, ↓reduceIte,Nat.reduceEqDiff,Nat.reduceAdd,Nat.reduceSub,Nat.reduceLeDiff,reduceCtorEq,vX,vA,vF,dD hi,L1]
   ·simp only[List.cons.injEq,and_true]at zW
    subst zW
    have qK:=dD Jn
    have y1:=cr (a:=A) (b:=id) (by omega)
    have y2:=cr (a:=F) (b:=id) wP
    have y3:=cr (a:=X) (b:=id) (by omega)
    have e3:La.length+1<=16777216:=by omega
    have z1:(La.map eN).length=La.length:=by simp
    refine eT ?_ ?_<;>(try((repeat(revert hN;revert N;apply Pn.out));refine wk (tw @a6 (tw @a5 (tw @ag0 (tw @ag1 (tw @a0 (tw @a1 (tw @hj (tw @iq (tw @aw.eq_1 (tw @ag (tw @iW (tw @gq (tw @fA (tw @iO (tw @x1 (tw @x2 (tw @x3 (tw @vX (tw @vA (tw @vF (tw @bh.eq_1 (tw @hid (tw @qK (tw @y1 (tw @y2 (tw @y3 (tw @e3 @z1))))))))))))))))))))))))))) ?_;(repeat(refine Pn.mk ?_;intro N hN))))<;>(try refine eT ?_ ?_)<;>(try((repeat(revert hN;revert N;apply Pn.out));refine wk (tw @a6 (tw @a5 (tw @ag0 (tw @ag1 (tw @a0 (tw @a1 (tw @hj (tw @iq (tw @aw.eq_1 (tw @ag (tw @iW (tw @gq (tw @fA (tw @iO (tw @x1 (tw @x2 (tw @x3 (tw @vX (tw @vA (tw @vF (tw @bh.eq_1 (tw @hid (tw @qK (tw @y1 (tw @y2 (tw @y3 (tw @e3 @z1))))))))))))))))))))))))))) ?_;(repeat(refine Pn.mk ?_;intro N hN))))<;>(try refine eT ?_ ?_)<;>(try((repeat(revert hN;revert N;apply Pn.out));refine wk (tw @a6 (tw @a5 (tw @ag0 (tw @ag1 (tw @a0 (tw @a1 (tw @hj (tw @iq (tw @aw.eq_1 (tw @ag (tw @iW (tw @gq (tw @fA (tw @iO (tw @x1 (tw @x2 (tw @x3 (tw @vX (tw @vA (tw @vF (tw @bh.eq_1 (tw @hid (tw @qK (tw @y1 (tw @y2 (tw @y3 (tw @e3 @z1))))))))))))))))))))))))))) ?_;(repeat(refine Pn.mk ?_;intro N hN))))<;>(try refine eT ?_ ?_)<;>(try((repeat(revert hN;revert N;apply Pn.out));refine wk (tw @a6 (tw @a5 (tw @ag0 (tw @ag1 (tw @a0 (tw @a1 (tw @hj (tw @iq (tw @aw.eq_1 (tw @ag (tw @iW (tw @gq (tw @fA (tw @iO (tw @x1 (tw @x2 (tw @x3 (tw @vX (tw @vA (tw @vF (tw @bh.eq_1 (tw @hid (tw @qK (tw @y1 (tw @y2 (tw @y3 (tw @e3 @z1))))))))))))))))))))))))))) ?_;(repeat(refine Pn.mk ?_;intro N hN))))<;>(try refine eT ?_ ?_)<;>(try((repeat(revert hN;revert N;apply Pn.out));refine wk (tw @a6 (tw @a5 (tw @ag0 (tw @ag1 (tw @a0 (tw @a1 (tw @hj (tw @iq (tw @aw.eq_1 (tw @ag (tw @iW (tw @gq (tw @fA (tw @iO (tw @x1 (tw @x2 (tw @x3 (tw @vX (tw @vA (tw @vF (tw @bh.eq_1 (tw @hid (tw @qK (tw @y1 (tw @y2 (tw @y3 (tw @e3 @z1))))))))))))))))))))))))))) ?_;(repeat(refine Pn.mk ?_;intro N hN))))<;>(try refine eT ?_ ?_)<;>(try((repeat(revert hN;revert N;apply Pn.out));refine wk (tw @a6 (tw @a5 (tw @ag0 (tw @ag1 (tw @a0 (tw @a1 (tw @hj (tw @iq (tw @aw.eq_1 (tw @ag (tw @iW (tw @gq (tw @fA (tw @iO (tw @x1 (tw @x2 (tw @x3 (tw @vX (tw @vA (tw @vF (tw @bh.eq_1 (tw @hid (tw @qK (tw @y1 (tw @y2 (tw @y3 (tw @e3 @z1))))))))))))))))))))))))))) ?_;(repeat(refine Pn.mk ?_;intro N hN))))
    all_goals
     refine⟨by simp only[go_sem, ↓reduceIte,Nat.reduceEqDiff,Nat.reduceAdd,Nat.reduceSub,Nat.reduceLeDiff,reduceCtorEq,a6,a5,ag0,ag1,a0,a1,hj,iq,aw,ag,iW,gq,fA,iO,x1,x2,x3,vX,vA,vF,bh,hid,qK,y1,y2,y3,e3,z1],by simp only[go_sem, ↓reduceIte,Nat.reduceEqDiff,Nat.reduceAdd,Nat.reduceSub,Nat.reduceLeDiff,reduceCtorEq,a6,a5,ag0,ag1,a0,a1,hj,iq,aw,ag,iW,gq,fA,iO,x1,x2,x3,vX,vA,vF,bh,hid,qK,y1,y2,y3,e3,z1],by simp only[go_sem, ↓reduceIte,Nat.reduceEqDiff,Nat.reduceAdd,Nat.reduceSub,Nat.reduceLeDiff,reduceCtorEq,a6,a5,ag0,ag1,a0,a1,hj,iq,aw,ag,iW,gq,fA,iO,x1,x2,x3,vX,vA,vF,bh,hid,qK,y1,y2,y3,e3,z1],by simp only[go_sem, ↓reduceIte,Nat.reduceEqDiff,Nat.reduceAdd,Nat.reduceSub,Nat.reduceLeDiff,reduceCtorEq,a6,a5,ag0,ag1,a0,a1,hj,iq,aw,ag,iW,gq,fA,iO,x1,x2,x3,vX,vA,vF,bh,hid,qK,y1,y2,y3,e3,z1],by simp only[go_sem, ↓reduceIte,Nat.reduceEqDiff,Nat.reduceAdd,Nat.reduceSub,Nat.reduceLeDiff,reduceCtorEq,a6,a5,ag0,ag1,a0,a1,hj,iq,aw,ag,iW,gq,fA,iO,x1,x2,x3,vX,vA,vF,bh,hid,qK,y1,y2,y3,e3,z1],by simp only[go_sem, ↓reduceIte,Nat.reduceEqDiff,Nat.reduceAdd,Nat.reduceSub,Nat.reduceLeDiff,reduceCtorEq,a6,a5,ag0,ag1,a0,a1,hj,iq,aw,ag,iW,gq,fA,iO,x1,x2,x3,vX,vA,vF,bh,hid,qK,y1,y2,y3,e3,z1],G2 _ (by simp only[go_sem, ↓reduceIte,Nat.reduceEqDiff,Nat.reduceAdd,Nat.reduceSub,Nat.reduceLeDiff,reduceCtorEq,a6,a5,ag0,ag1,a0,a1,hj,iq,aw,ag,iW,gq,fA,iO,x1,x2,x3,vX,vA,vF,bh,hid,qK,y1,y2,y3,e3,z1,List.length_nil]) (by simp only[go_sem, ↓reduceIte,Nat.reduceEqDiff,Nat.reduceAdd,Nat.reduceSub,Nat.reduceLeDiff,reduceCtorEq,a6,a5,ag0,ag1,a0,a1,hj,iq,aw,ag,iW,gq,fA,iO,x1,x2,x3,vX,vA,vF,bh,hid,qK,y1,y2,y3,e3,z1,List.map_nil,List.nil_append]) (fun i hi L1 e9=>?_),by(try dsimp only);omega⟩
     have gI:=e9 id rfl
     simp only[go_sem, ↓reduceIte,Nat.reduceEqDiff,Nat.reduceAdd,Nat.reduceSub,Nat.reduceLeDiff,reduceCtorEq,vX,vA,vF,dD hi,L1,gI]
 ·have gM:j=bs.length:=by omega
  subst gM
  (try((repeat(revert hN;revert N;apply Pn.out));refine wk (tw @a6 (tw @a5 (tw @ag0 (tw @ag1 (tw @a0 (tw @a1 @hj)))))) ?_;(repeat(refine Pn.mk ?_;intro N hN))))
  exact iE (.inl rfl) (by simp only[eZ,gR,go_sem, ↓reduceIte,Nat.reduceEqDiff,Nat.reduceAdd,Nat.reduceSub,Nat.reduceLeDiff,reduceCtorEq];rfl) ⟨X,A,F,rfl,hXs,⟨ag0,⟨rows,ids,ag,hR,oe,fun x hx=>by have:=mU x hx;(try dsimp only);omega⟩,ag1,hXA,hAF,by(try dsimp only);omega⟩⟩
end Go.Proofs.YtgoelphibofcmaaGreat.V

namespace Go.Proofs.YtgoelphibofcmaaGreat.V
open Go.RowKit
attribute [local irreducible] dx wpOps gp Call
attribute [local go_sem] aH fC eG fW fV cF upd cj K.av cJ AV.cells AV.cell rowOf rowsOf part ld rowAt bj bY dz eb gT bE cZ er fS eU dp eh cX cW dR dS bH aW cN bG cQ cP ee ei ef cL bP cY ec bF aL cU cw gS bl cG bI aP dd aU dB AV.undef bw bB dV ea dI dG cE ep ev cq ek ej cR cV List.getD_cons_zero List.getD_cons_succ List.getD_nil List.all_cons List.all_nil Bool.and_true Bool.true_and Bool.and_self Bool.not_true Bool.not_false Option.map_some Option.map_none Option.bind_some Option.bind_none List.length_cons List.length_nil List.take_succ_cons List.take_zero List.take_nil List.drop_succ_cons List.drop_zero List.drop_nil List.head?_cons List.map_cons List.map_nil List.getElem?_cons_zero List.getElem?_cons_succ List.cons_append List.nil_append List.append_nil List.length_map List.set_cons_zero List.set_cons_succ Nat.reduceMul eq_self Int.toNat_natCast Int.natCast_nonneg and_self true_and and_true decide_true decide_false Bool.false_eq_true Nat.zero_add Nat.add_zero List.contains_cons List.contains_nil Bool.or_false Bool.false_or beq_self_eq_true Nat.reduceBEq ne_eq not_true_eq_false not_false_eq_true Id.mk.injEq false_and and_false Nat.reduceLT Int.reduceLE Int.reduceLT Int.reduceToNat Int.reduceNeg Int.reduceAdd Nat.le_refl List.length_append beq_true beq_false Bool.not_eq_eq_eq_not or_false false_or dO ah aq aI aZ bt ck aS bf aO aY cK bK
theorem pP.frame {A:Id} {lo nx tn:Nat} {L:List (List Nat)} {g g':Rows} (h:pP A lo L g nx) (hA:A.bQ<nx) (hf:∀i:Id,i.bQ<nx->lo<i.bQ∨i=A->g' i=g i) (hn:nx<=tn):pP A lo L g' tn:=by
 obtain⟨rows,ids,h1,h2,h3,h4⟩:=h
 refine⟨rows,ids,(hf A hA (.inr rfl)).trans h1,h2.frame KX fun i hi=>hf i (h4 i hi).2 (.inl (h4 i hi).1),h3,fun i hi=>?_⟩
 have:=h4 i hi;omega
theorem nj.frame {cnt:Nat} {bs:List PB} {f:Nat->Int} {X A F:Id} {g g':Rows} {nx tn:Nat} (h:nj cnt bs f X A F g nx) (hf:∀i:Id,i.bQ<nx->g' i=g i) (hn:nx<=tn):nj cnt bs f X A F g' tn:=by
 have h1:=h.xa;have h2:=h.af;have h3:=h.fn
 exact⟨(hf X (by omega)).trans h.x,h.a.frame (by omega) (fun i hi _=>hf i hi) hn,(hf F h3).trans h.f,h1,h2,by omega⟩
theorem nj.N8 {cnt:Nat} {bs:List PB} {f f':Nat->Int} {X A F:Id} {g g':Rows} {nx tn:Nat} (h:nj cnt bs f X A F g nx) (hF:g' F=some ⟨true,1,dH f' bs.length⟩) (hf:∀i:Id,i.bQ<nx->(i=F)=False->g' i=g i) (hn:nx<=tn):nj cnt bs f' X A F g' tn:=by
 have h1:=h.xa;have h2:=h.af;have h3:=h.fn
 refine⟨(hf X (by omega) (cr (by omega)).1).trans h.x,h.a.frame (by omega) (fun i hi jS=>hf i hi ?_) hn,hF,h1,h2,by omega⟩
 rcases jS with jS|rfl
 ·exact(cr jS).2
 ·exact(cr h2).1
theorem MA (cnt:Nat) (bs:List PB) (f:Nat->Int) (hs:Small bs f) (e v:Nat) (he:e<bs.length) (X A F:Id) (σ:ar) (nx:Nat) (hS:nj cnt bs f X A F σ.get nx) (hn:nx<=σ.next):
  Call Tryz.prog 261 [.ptr X 0 0,.int .i64 v,.int .i64 e] σ fun r σ'=>nj cnt bs (sF bs f e v) X A F σ'.get nx/\σ.next<=σ'.next/\∀i:Id,(i=F)=False->σ'.get i=σ.get i:=by
 refine iF eI rfl fun hl=>?_
 clear hl
 have hX:=hS.x
 have hF:=hS.f
 have hb:=sY he
 have RH:=dC (f:=f) he
 have tl:=dt f bs.length
 obtain⟨⟨s0,s1⟩,s2,s3⟩:=hs e he
 have hei:(e:Int)<(bs.length:Int):=by omega
 have w1:IntKind.i64.wrap (f e+1)=f e+1:=bW (by omega)
 have w2:IntKind.i64.wrap (f e-1)=f e+-1:=by rw[bW (by omega)];omega
 rw[br]at RH
 unfold sF
 by_cases h:(bU bs e).a=v
 ·have fc:(dH f bs.length).set e (br (f e+1))=dH (fun j=>f j+if j=e then(if (bU bs e).a=v then 1 else -1)else 0) bs.length:=kA he (by rw[if_pos rfl,if_pos h]) fun i _ hi=>by rw[if_neg hi,Int.add_zero]
  rw[br]at fc
  generalize Qd:bU bs e=b at *
  have hd:decide ((b.a:Int)=(v:Int))=true:=decide_eq_true (by rw[h])
  (try((repeat(revert hN;revert N;apply Pn.out));refine wk (tw @hX (tw @hF (tw @hb (tw @RH (tw @tl (tw @hei (tw @w1 (tw @fc (tw @hd (tw @aw.eq_1 @bh.eq_1)))))))))) ?_;(repeat(refine Pn.mk ?_;intro N hN))))
  exact iE (.inr rfl) (vs:=[]) rfl ⟨hS.N8 (sd @Nat.zero_add) (fun i hi gI=>sd @gI) (Nat.le_refl _),by(try dsimp only);omega,fun i gI=>sd @gI⟩
 ·have fc:(dH f bs.length).set e (br (f e+-1))=dH (fun j=>f j+if j=e then(if (bU bs e).a=v then 1 else -1)else 0) bs.length:=kA he (by rw[if_pos rfl,if_neg h]) fun i _ hi=>by rw[if_neg hi,Int.add_zero]
  rw[br]at fc
  generalize Qd:bU bs e=b at *
  have hd:decide ((b.a:Int)=(v:Int))=false:=decide_eq_false fun hc=>h (by omega)
  (try((repeat(revert hN;revert N;apply Pn.out));refine wk (tw @hX (tw @hF (tw @hb (tw @RH (tw @tl (tw @hei (tw @w2 (tw @fc (tw @hd (tw @aw.eq_1 @bh.eq_1)))))))))) ?_;(repeat(refine Pn.mk ?_;intro N hN))))
  exact iE (.inr rfl) (vs:=[]) rfl ⟨hS.N8 (sd @Nat.zero_add) (fun i hi gI=>sd @gI) (Nat.le_refl _),by(try dsimp only);omega,fun i gI=>sd @gI⟩
structure np (bs:List PB) (out:Nat->Int) (f f':Nat->Int) (x v:Nat):Prop where
 le:∀i,i<bs.length->f' i<=(bU bs i).s/\-(bU bs i).s<=f' i
 cut:∀S:Nat->Bool,Eh S bs f'=Eh S bs f+bi (S x)-bi (S v)
 xl:∀e,e<bs.length->out (bU bs e).a<=out v->out (bU bs e).b<=out v->f' e=f e
section
variable {cnt:Nat} {bs:List PB} {out:Nat->Int} {f f':Nat->Int} {x v y:Nat}
theorem np.start (h:∀i,i<bs.length->f i<=(bU bs i).s/\-(bU bs i).s<=f i):np bs out f f x x:=⟨h,fun S=>by omega,fun _ _ _ _=>rfl⟩
theorem np.step (h:np bs out f f' x v) {e:Nat} (he:e<bs.length) (hi:C0 bs e v) (hr:0<fm bs f' e v) (hd:out (bz bs e v)=out v-1):np bs out f (sF bs f' e v) x (bz bs e v):=by
 refine⟨fun i kQ=>?_,fun S=>?_,fun i kQ ha hb=>?_⟩
 ·have h1:=h.le i kQ
  unfold sF
  by_cases FK:i=e
  ·subst FK
   rw[if_pos rfl]
   unfold fm at hr
   split at hr<;>rename_i hc
   ·rw[if_pos hc];omega
   ·rw[if_neg hc];omega
  ·rw[if_neg FK];omega
 ·rw[Ei he hi,h.cut S];omega
 ·have FK:i≠e:=by
   rintro rfl
   rcases hi with hi|hi
   ·rw[hi]at ha;omega
   ·rw[hi]at hb;omega
  unfold sF
  rw[if_neg FK,Int.add_zero]
  exact h.xl i kQ (by omega) (by omega)
theorem np.goes (h:np bs out f f' x v) (hs:xL cnt bs f y out) (hv:v<cnt) (h0:0<out v):∃e∈iC bs bs.length v,0<fm bs f' e v/\out (bz bs e v)=out v-1:=by
 obtain⟨e,h1,h2,h3,h4⟩:=hs.down v hv h0
 refine⟨e,qk.2 ⟨h1,h2⟩,?_,h4⟩
 have hf:f' e=f e:=by
  refine h.xl e h1 ?_ ?_
  ·unfold bz at h4
   split at h4
   ·rename_i ha;rw[ha];exact Int.le_refl _
   ·omega
  ·unfold bz at h4
   rcases h2 with h2|h2
   ·rw[if_pos h2]at h4;omega
   ·rw[h2];exact Int.le_refl _
 unfold fm at h3 ⊢
 rw[hf];exact h3
theorem np.done {val:Int} (h:np bs out f f' x y) (hf:jE bs f x y val):jE bs f' x y (val+1):=
 ⟨h.le,fun S hx hy=>by rw[h.cut S,hf.cut S hx hy,hx,hy];simp[bi]⟩
theorem CI {val:Int} (hs:xL cnt bs f y out) (ok:mj cnt bs) (hf:jE bs f x y val) (hx:out x<0):∃S:Nat->Bool,S x=true/\S y=false/\val=iM S bs:=by
 refine⟨fun v=>decide (out v<0),decide_eq_true hx,decide_eq_false (by rw[hs.first];omega),hf.full (decide_eq_true hx) (decide_eq_false (by rw[hs.first];omega)) fun i hi po=>⟨fun h1 h2 hr=>?_,fun h1 h2 hr=>?_⟩⟩
 ·have LH:=of_decide_eq_true h1
  have A7:=of_decide_eq_false h2
  have:=hs.shut i (bU bs i).a hi (.inl rfl) (by unfold bz;rw[if_pos rfl];omega) hr
  omega
 ·have LH:=of_decide_eq_true h1
  have A7:=of_decide_eq_false h2
  have:=hs.shut i (bU bs i).b hi (.inr rfl) (by unfold bz;rw[if_neg po];omega) hr
  omega
end
end Go.Proofs.YtgoelphibofcmaaGreat.V

namespace Go.Proofs.YtgoelphibofcmaaGreat.V
open Go.RowKit
attribute [local irreducible] dx wpOps gp Call
attribute [local go_sem] aH fC eG fW fV cF upd cj K.av cJ AV.cells AV.cell rowOf rowsOf part ld rowAt bj bY dz eb gT bE cZ er fS eU dp eh cX cW dR dS bH aW cN bG cQ cP ee ei ef cL bP cY ec bF aL cU cw gS bl cG bI aP dd aU dB AV.undef bw bB dV ea dI dG cE ep ev cq ek ej cR cV List.getD_cons_zero List.getD_cons_succ List.getD_nil List.all_cons List.all_nil Bool.and_true Bool.true_and Bool.and_self Bool.not_true Bool.not_false Option.map_some Option.map_none Option.bind_some Option.bind_none List.length_cons List.length_nil List.take_succ_cons List.take_zero List.take_nil List.drop_succ_cons List.drop_zero List.drop_nil List.head?_cons List.map_cons List.map_nil List.getElem?_cons_zero List.getElem?_cons_succ List.cons_append List.nil_append List.append_nil List.length_map List.set_cons_zero List.set_cons_succ Nat.reduceMul eq_self Int.toNat_natCast Int.natCast_nonneg and_self true_and and_true decide_true decide_false Bool.false_eq_true Nat.zero_add Nat.add_zero List.contains_cons List.contains_nil Bool.or_false Bool.false_or beq_self_eq_true Nat.reduceBEq ne_eq not_true_eq_false not_false_eq_true Id.mk.injEq false_and and_false Nat.reduceLT Int.reduceLE Int.reduceLT Int.reduceToNat Int.reduceNeg Int.reduceAdd Nat.le_refl List.length_append beq_true beq_false Bool.not_eq_eq_eq_not or_false false_or dO ah aq aI aZ bt ck aS bf aO aY cK bK
theorem uV {bs:List PB} {f:Nat->Int} (dv:∀e,e<bs.length->0<=(bU bs e).s/\(bU bs e).s<=4) (h:∀i,i<bs.length->f i<=(bU bs i).s/\-(bU bs i).s<=f i):Small bs f:=fun e he=>by
 have:=dv e he;have:=h e he;omega
theorem pP.at_ {A:Id} {lo nx v:Nat} {L:List (List Nat)} {l:List Nat} {g:Rows} (h:pP A lo L g nx) (hv:L[v]? =some l) (hl:0<l.length):∃(rows:List (List AV)) (id:Id),g A=some ⟨true,1,rows⟩/\rows.length=L.length/\rows[v]? =some [.own id 0 l.length]/\g id=some ⟨true,1,l.map eN⟩/\lo<id.bQ/\id.bQ<nx:=by
 obtain⟨rows,ids,h1,h2,h3,h4⟩:=h
 have hk:v<L.length:=(List.getElem?_eq_some_iff.1 hv).1
 obtain⟨cs,ic,dn,hR,OE⟩:=h2.at_ v hk
 rw[kd hv hk]at hR
 rcases hR with⟨h5,_⟩|⟨id,rfl,_,h6,rfl⟩
 ·subst h5;simp at hl
 ·have:=h4 id (OE id (by simp))
  exact⟨rows,id,h1,h2.len,dn,h6,this.1,this.2⟩
theorem LG (cnt:Nat) (hn:cnt<=1048576) (bs:List PB) (ok:mj cnt bs) (oQ:bs.length<=1048576) (dv:∀e,e<bs.length->0<=(bU bs e).s/\(bU bs e).s<=4) (f:Nat->Int) (x y:Nat) (hx:x<cnt) (hy:y<cnt) (O6:x≠y) (val:Int) (hf:jE bs f x y val)
  (X A F:Id) (σ:ar) (nb:Nat) (hS:nj cnt bs f X A F σ.get nb) (pr:nb<=σ.next):
  Call Tryz.prog 238 [.ptr X 0 0,.int .i64 x,.int .i64 y] σ fun r σ'=>∃b f',r=.bool b/\nj cnt bs f' X A F σ'.get nb/\σ.next<=σ'.next/\(∀i:Id,i.bQ<nb->(i=F)=False->σ'.get i=σ.get i)/\
   (b=false->f'=f/\∃S:Nat->Bool,S x=true/\S y=false/\val=iM S bs)/\(b=true->jE bs f' x y (val+1)):=by
 refine iF eI rfl fun hl=>?_
 clear hl
 have Bg:(x:Int)<(cnt:Int):=by omega
 have hz:∀(g:Rows),(∀i:Id,i.bQ<nb->g i=σ.get i)->da (dO g) 6 [.ptr X 0 0,.int .i64 (y:Int)]=some [.cI (fy cnt bs f),.int .i64 y]:=fun g hg=>by
  have:=(hS.frame hg (Nat.le_refl _)).fz
  simp only[ah,aq,this,aI,Option.map_some]
 (try((repeat(revert hN;revert N;apply Pn.out));refine wk @Nat.zero_add ?_;(repeat(refine Pn.mk ?_;intro N hN))))
 refine .inr (bp _ _ _ _ _ (fun r σ1 hq=>?_) ((DO cnt hn bs ok oQ f (uV dv hf.le) y hy).x mixed (hz _ (fun i hi=>rfl))))
 obtain⟨⟨out,rfl,Mg⟩,rfl⟩:=hq
 refine hN _ _ ?_
 clear hN N
 have hox:=dC (f:=out) hx
 have tl:=dt out cnt
 by_cases jK:out x<0
 ·(try((repeat(revert hN;revert N;apply Pn.out));refine wk (tw @hox (tw @jK (tw @Bg (tw @tl @br.eq_1)))) ?_;(repeat(refine Pn.mk ?_;intro N hN))))
  exact iE (.inl rfl) (vs:=[.bool false]) (sd @Nat.zero_add) ⟨false,f,rfl,hS.frame (fun i hi=>rfl) (Nat.le_refl _),by(try dsimp only);omega,fun i _ _=>rfl,fun _=>⟨rfl,CI Mg ok hf jK⟩,fun h=>by cases h⟩
 (try((repeat(revert hN;revert N;apply Pn.out));refine wk (tw @hox (tw @jK (tw @Bg (tw @tl @br.eq_1)))) ?_;(repeat(refine Pn.mk ?_;intro N hN))))
 refine aQ (fun m env st=>∃(v:Nat) (f':Nat->Int),m=(out v).toNat/\v<cnt/\0<=out v/\env 8=.int .i64 (v:Int)/\np bs out f f' x v/\nj cnt bs f' X A F st.get nb/\(∀i:Id,i.bQ<nb->(i=F)=False->st.get i=σ.get i)/\σ.next<=st.next) (out x).toNat ⟨x,f,rfl,hx,by omega,by(simp only[go_sem, ↓reduceIte,Nat.reduceEqDiff,Nat.reduceAdd,Nat.reduceSub,Nat.reduceLeDiff,reduceCtorEq]),np.start hf.le,hS.frame (fun i hi=>rfl) (Nat.le_refl _),fun i _ _=>rfl,by(try dsimp only);omega⟩ ?_
 rintro m env_b st_b ⟨v,f',rfl,hv,qR,b8,hW,hN1,js,hle⟩ fE
 have b0:=fE 0 (by kernel_rfl)
 have b2:=fE 2 (by kernel_rfl)
 have b7:=fE 7 (by kernel_rfl)
 simp only[go_sem, ↓reduceIte,Nat.reduceEqDiff,Nat.reduceAdd,Nat.reduceSub,Nat.reduceLeDiff,reduceCtorEq]at b0 b2 b7
 clear fE
 by_cases QC:v=y
 ·have hd:decide ((v:Int)=(y:Int))=true:=decide_eq_true (by rw[QC])
  subst QC
  (try((repeat(revert hN;revert N;apply Pn.out));refine wk (tw @b0 (tw @b2 (tw @b7 (tw @b8 @hd)))) ?_;(repeat(refine Pn.mk ?_;intro N hN))))
  exact iE (.inl rfl) (vs:=[.bool true]) (sd @Nat.zero_add) ⟨true,f',rfl,hN1,by(try dsimp only);omega,js,fun h=>(by cases h),fun _=>hW.done hf⟩
 have hd:decide ((v:Int)=(y:Int))=false:=decide_eq_false fun h=>QC (by omega)
 have zk:0<out v:=by
  have:=Mg.zero v hv
  rcases Int.lt_or_eq_of_le qR with h|h
  ·exact h
  ·exact absurd (this h.symm) QC
 have KG:=hW.goes Mg hv zk
 have hIm:∀ed∈iC bs bs.length v,ed<bs.length/\C0 bs ed v:=fun ed h=>qk.1 h
 have hIL:(kH cnt bs bs.length)[v]? =some (iC bs bs.length v):=by simp[kH,hv]
 have hIl:=qj bs bs.length v
 generalize iC bs bs.length v=I at *
 have hIp:0<I.length:=by
  obtain⟨ed,h,_⟩:=KG
  exact List.length_pos_of_mem h
 obtain⟨rows,id,hgA,tf,kS,hid,hid1,hid2⟩:=hN1.a.at_ hIL hIp
 rw[iY]at tf
 have hgX:=hN1.x
 have B6:(v:Int)<(cnt:Int):=by omega
 have yj:=dC (f:=out) hv
 have tg:IntKind.i64.wrap (out v-1)=out v-1:=bW (by have:=Mg.lo v hv;omega)
 have pk:(I.map eN).length=I.length:=by simp
 have JB:=uV dv hW.le
 have lu:∀(g:Rows),(∀i:Id,i.bQ<nb->g i=st_b.get i)->∀ed:Nat,da (dO g) 6 [.ptr X 0 0,.int .i64 (v:Int),.int .i64 (ed:Int)]=some [.cI (fy cnt bs f'),.int .i64 v,.int .i64 ed]:=fun g hg ed=>by
  have:=(hN1.frame hg (Nat.le_refl _)).fz
  simp only[ah,aq,this,aI,Option.map_some]
 rw[br]at yj
 (try((repeat(revert hN;revert N;apply Pn.out));refine wk (tw @b0 (tw @b2 (tw @b7 (tw @b8 @hd)))) ?_;(repeat(refine Pn.mk ?_;intro N hN))))
 refine aQ (fun n env st=>∃k:Nat,n=(I.length)-k/\k<=(I.length)/\env 11=.int .i64 (k:Int)/\(∃(sE C7:Int),env 9=.int .i64 sE/\env 10=.int .i64 C7/\((sE<0/\∀z,z<k->¬(0<fm bs f' (I.getD z 0) v/\out (bz bs (I.getD z 0) v)=out v-1))∨∃ed:Nat,ed∈I/\C7=(ed:Int)/\sE=(bz bs ed v:Int)/\0<fm bs f' ed v/\out (bz bs ed v)=out v-1))/\((∀i:Id,st.get i=st_b.get i)/\st_b.next<=st.next)) (I.length) ⟨0,by omega,by omega,sl (tw @b0 (tw @b2 (tw @b7 @b8))),⟨-1,0,by(simp only[go_sem, ↓reduceIte,Nat.reduceEqDiff,Nat.reduceAdd,Nat.reduceSub,Nat.reduceLeDiff,reduceCtorEq]),by(simp only[go_sem, ↓reduceIte,Nat.reduceEqDiff,Nat.reduceAdd,Nat.reduceSub,Nat.reduceLeDiff,reduceCtorEq]),.inl ⟨by omega,fun z hz=>by omega⟩⟩,⟨fun i=>rfl,by(try dsimp only);omega⟩⟩ ?_
 rintro n_c env_c st_c ⟨k,rfl,cle,mK,cI0,cI1⟩ cfr
 have c0:=cfr 0 (by kernel_rfl);have c2:=cfr 2 (by kernel_rfl);have c7:=cfr 7 (by kernel_rfl);have c8:=cfr 8 (by kernel_rfl)
 simp only[go_sem, ↓reduceIte,Nat.reduceEqDiff,Nat.reduceAdd,Nat.reduceSub,Nat.reduceLeDiff,reduceCtorEq,b0,b2,b7,b8]at c0 c2 c7 c8
 clear cfr
 obtain⟨sE,C7,c9,jd,GM⟩:=cI0
 obtain⟨lF,Qe⟩:=cI1
 have BX:=(lF X).trans hgX
 have BW:=(lF A).trans hgA
 have yg:=(lF id).trans hid
 by_cases hk:(k:Int)<(I.length:Int)
 ·have gO:∀{e:Env} {gg:Rows} {nx:Nat},(e 11=.int .i64 (IntKind.i64.wrap ((k:Int)+1)))->(∃(sE C7:Int),e 9=.int .i64 sE/\e 10=.int .i64 C7/\((sE<0/\∀z,z<(k+1)->¬(0<fm bs f' (I.getD z 0) v/\out (bz bs (I.getD z 0) v)=out v-1))∨∃ed:Nat,ed∈I/\C7=(ed:Int)/\sE=(bz bs ed v:Int)/\0<fm bs f' ed v/\out (bz bs ed v)=out v-1))->((∀i:Id,gg i=st_b.get i)/\st_b.next<=nx)->∃m0,m0<(I.length)-k/\∃k:Nat,m0=(I.length)-k/\k<=(I.length)/\e 11=.int .i64 (k:Int)/\(∃(sE C7:Int),e 9=.int .i64 sE/\e 10=.int .i64 C7/\((sE<0/\∀z,z<k->¬(0<fm bs f' (I.getD z 0) v/\out (bz bs (I.getD z 0) v)=out v-1))∨∃ed:Nat,ed∈I/\C7=(ed:Int)/\sE=(bz bs ed v:Int)/\0<fm bs f' ed v/\out (bz bs ed v)=out v-1))/\((∀i:Id,gg i=st_b.get i)/\st_b.next<=nx):=fun x1 x2 x3=>⟨_,by omega,k+1,rfl,by omega,(by rw[x1,aA (by omega)]),x2,x3⟩
  have fG:k<I.length:=by omega
  have eJ:(I.map eN)[k]? =some (eN (I.getD k 0)):=getD_map eN fG
  have rC:I.getD k 0∈I:=by rw[List.getD_eq_getElem?_getD,List.getElem?_eq_getElem fG];exact List.getElem_mem fG
  obtain⟨he,oK⟩:=hIm _ rC
  have Me:=HX cnt bs f' JB (I.getD k 0) v he
  have vD:=lu st_c.get (fun i _=>lF i) (I.getD k 0)
  have hq:=nO ok (v:=v) he
  have Nz:=dC (f:=out) hq
  obtain⟨ed,hed⟩:∃ed,ed=I.getD k 0:=⟨_,rfl⟩
  rw[<-hed]at eJ he oK Me vD hq Nz rC
  rw[br]at Nz
  rw[eN]at eJ
  (try((repeat(revert hN;revert N;apply Pn.out));refine wk (tw @mK (tw @c0 (tw @c2 (tw @c7 (tw @c8 (tw @c9 (tw @jd (tw @hk (tw @BX (tw @BW (tw @yg (tw @kS (tw @tf (tw @B6 (tw @eJ (tw @pk @bh.eq_1)))))))))))))))) ?_;(repeat(refine Pn.mk ?_;intro N hN))))
  refine .inl ⟨_,aj.x Me vD,?_⟩
  refine hN _ _ ?_
  clear hN N
  have stay:∀k',k'=k+1->(¬(0<fm bs f' ed v/\out (bz bs ed v)=out v-1))->((sE<0/\∀z,z<k'->¬(0<fm bs f' (I.getD z 0) v/\out (bz bs (I.getD z 0) v)=out v-1))∨∃ed:Nat,ed∈I/\C7=(ed:Int)/\sE=(bz bs ed v:Int)/\0<fm bs f' ed v/\out (bz bs ed v)=out v-1):=fun k' EC kG=>by
   rcases GM with⟨h1,h2⟩|h
   ·refine .inl ⟨h1,fun z hz=>?_⟩
    by_cases B8:z=k
    ·subst B8;rw[<-hed];exact kG
    ·exact h2 z (by omega)
   ·exact .inr h
  by_cases hr:0<fm bs f' ed v
  ·by_cases IH:out (bz bs ed v)=out v-1
   ·have mM:decide (out (bz bs ed v)=out v-1)=true:=decide_eq_true IH
    have found:∃N3:Nat,N3∈I/\(ed:Int)=(N3:Int)/\(bz bs ed v:Int)=(bz bs N3 v:Int)/\0<fm bs f' N3 v/\out (bz bs N3 v)=out v-1:=⟨ed,rC,rfl,rfl,hr,IH⟩
    by_cases FM:sE<0
    ·(try((repeat(revert hN;revert N;apply Pn.out));refine wk (tw @mK (tw @c0 (tw @c2 (tw @c7 (tw @c8 (tw @c9 (tw @jd (tw @hk (tw @BX (tw @BW (tw @yg (tw @kS (tw @tf (tw @B6 (tw @eJ (tw @pk (tw @hr (tw @Nz (tw @yj (tw @tg (tw @mM (tw @FM @bh.eq_1)))))))))))))))))))))) ?_;(repeat(refine Pn.mk ?_;intro N hN))))
     exact gO (sd (tw @mK (tw @c0 (tw @c2 (tw @c7 @c8))))) (⟨_,_,sd @Nat.zero_add,sd @Nat.zero_add,.inr found⟩) (⟨lF,by(try dsimp only);omega⟩)
    ·by_cases dE:(bz bs ed v:Int)<sE
     ·(try((repeat(revert hN;revert N;apply Pn.out));refine wk (tw @mK (tw @c0 (tw @c2 (tw @c7 (tw @c8 (tw @c9 (tw @jd (tw @hk (tw @BX (tw @BW (tw @yg (tw @kS (tw @tf (tw @B6 (tw @eJ (tw @pk (tw @hr (tw @Nz (tw @yj (tw @tg (tw @mM (tw @FM (tw @dE @bh.eq_1))))))))))))))))))))))) ?_;(repeat(refine Pn.mk ?_;intro N hN))))
      exact gO (sd (tw @mK (tw @c0 (tw @c2 (tw @c7 @c8))))) (⟨_,_,sd @Nat.zero_add,sd @Nat.zero_add,.inr found⟩) (⟨lF,by(try dsimp only);omega⟩)
     ·(try((repeat(revert hN;revert N;apply Pn.out));refine wk (tw @mK (tw @c0 (tw @c2 (tw @c7 (tw @c8 (tw @c9 (tw @jd (tw @hk (tw @BX (tw @BW (tw @yg (tw @kS (tw @tf (tw @B6 (tw @eJ (tw @pk (tw @hr (tw @Nz (tw @yj (tw @tg (tw @mM (tw @FM (tw @dE @bh.eq_1))))))))))))))))))))))) ?_;(repeat(refine Pn.mk ?_;intro N hN))))
      exact gO (sd (tw @mK (tw @c0 (tw @c2 (tw @c7 @c8))))) (⟨sE,C7,sd @c9,sd @jd,by
       rcases GM with⟨h1,_⟩|h
       ·exact absurd h1 FM
       ·exact .inr h⟩) (⟨lF,by(try dsimp only);omega⟩)
   ·have mM:decide (out (bz bs ed v)=out v-1)=false:=decide_eq_false IH
    (try((repeat(revert hN;revert N;apply Pn.out));refine wk (tw @mK (tw @c0 (tw @c2 (tw @c7 (tw @c8 (tw @c9 (tw @jd (tw @hk (tw @BX (tw @BW (tw @yg (tw @kS (tw @tf (tw @B6 (tw @eJ (tw @pk (tw @hr (tw @Nz (tw @yj (tw @tg (tw @mM @bh.eq_1))))))))))))))))))))) ?_;(repeat(refine Pn.mk ?_;intro N hN))))
    exact gO (sd (tw @mK (tw @c0 (tw @c2 (tw @c7 @c8))))) (⟨sE,C7,sd @c9,sd @jd,stay _ rfl fun h=>IH h.2⟩) (⟨lF,by(try dsimp only);omega⟩)
  ·(try((repeat(revert hN;revert N;apply Pn.out));refine wk (tw @mK (tw @c0 (tw @c2 (tw @c7 (tw @c8 (tw @c9 (tw @jd (tw @hk (tw @BX (tw @BW (tw @yg (tw @kS (tw @tf (tw @B6 (tw @eJ (tw @pk (tw @hr @bh.eq_1))))))))))))))))) ?_;(repeat(refine Pn.mk ?_;intro N hN))))
   exact gO (sd (tw @mK (tw @c0 (tw @c2 (tw @c7 @c8))))) (⟨sE,C7,sd @c9,sd @jd,stay _ rfl fun h=>hr h.1⟩) (⟨lF,by(try dsimp only);omega⟩)
 ·have lq:k=I.length:=by omega
  have RI:∃ed:Nat,ed∈I/\C7=(ed:Int)/\sE=(bz bs ed v:Int)/\0<fm bs f' ed v/\out (bz bs ed v)=out v-1:=by
   rcases GM with⟨h1,h2⟩|h
   ·exfalso
    obtain⟨ed,he,hq⟩:=KG
    obtain⟨z,hz,rfl⟩:=List.getElem_of_mem he
    refine h2 z (by omega) ?_
    rw[List.getD_eq_getElem?_getD,List.getElem?_eq_getElem hz];exact hq
   ·exact h
  obtain⟨ed,rC,rfl,rfl,hr,IH⟩:=RI
  obtain⟨he,oK⟩:=hIm _ rC
  (try((repeat(revert hN;revert N;apply Pn.out));refine wk (tw @mK (tw @c0 (tw @c2 (tw @c7 (tw @c8 (tw @c9 (tw @jd (tw @hk (tw @BX (tw @BW (tw @yg (tw @kS (tw @tf (tw @B6 (tw @pk @bh.eq_1))))))))))))))) ?_;(repeat(refine Pn.mk ?_;intro N hN))))
  refine .inr (bp _ _ _ _ _ (fun r σ1 hq=>?_) (MA cnt bs f' JB ed v he X A F ⟨st_c.get,_⟩ nb (hN1.frame (fun i _=>lF i) (Nat.le_refl _)) (by(try dsimp only);omega)))
  obtain⟨P6,l5,GU⟩:=hq
  (try dsimp only at l5 GU)
  refine hN _ _ ?_
  clear hN N
  (try((repeat(revert hN;revert N;apply Pn.out));refine wk (tw @mK (tw @c0 (tw @c2 (tw @c7 (tw @c8 @c9))))) ?_;(repeat(refine Pn.mk ?_;intro N hN))))
  refine⟨_,?_,bz bs ed v,sF bs f' ed v,rfl,nO ok he,by omega,sd @Nat.zero_add,hW.step he oK hr IH,P6,fun i hi hF=>by rw[GU i hF,lF i,js i hi hF],by(try dsimp only);omega⟩
  omega
end Go.Proofs.YtgoelphibofcmaaGreat.V

namespace Go.Proofs.YtgoelphibofcmaaGreat.V
open Go.RowKit
attribute [local irreducible] dx wpOps gp Call
attribute [local go_sem] aH fC eG fW fV cF upd cj K.av cJ AV.cells AV.cell rowOf rowsOf part ld rowAt bj bY dz eb gT bE cZ er fS eU dp eh cX cW dR dS bH aW cN bG cQ cP ee ei ef cL bP cY ec bF aL cU cw gS bl cG bI aP dd aU dB AV.undef bw bB dV ea dI dG cE ep ev cq ek ej cR cV List.getD_cons_zero List.getD_cons_succ List.getD_nil List.all_cons List.all_nil Bool.and_true Bool.true_and Bool.and_self Bool.not_true Bool.not_false Option.map_some Option.map_none Option.bind_some Option.bind_none List.length_cons List.length_nil List.take_succ_cons List.take_zero List.take_nil List.drop_succ_cons List.drop_zero List.drop_nil List.head?_cons List.map_cons List.map_nil List.getElem?_cons_zero List.getElem?_cons_succ List.cons_append List.nil_append List.append_nil List.length_map List.set_cons_zero List.set_cons_succ Nat.reduceMul eq_self Int.toNat_natCast Int.natCast_nonneg and_self true_and and_true decide_true decide_false Bool.false_eq_true Nat.zero_add Nat.add_zero List.contains_cons List.contains_nil Bool.or_false Bool.false_or beq_self_eq_true Nat.reduceBEq ne_eq not_true_eq_false not_false_eq_true Id.mk.injEq false_and and_false Nat.reduceLT Int.reduceLE Int.reduceLT Int.reduceToNat Int.reduceNeg Int.reduceAdd Nat.le_refl List.length_append beq_true beq_false Bool.not_eq_eq_eq_not or_false false_or dO ah aq aI aZ bt ck aS bf aO aY cK bK
def rZ (P:Program) (f:Nat) (args:List AV) (R:AV->Prop):Prop:=∀σ:ar,Call P f args ⟨V.ro σ.get,σ.next⟩ fun r0 σ'=>∃r',V.fz σ'.get 6 r0=some r'/\R r'
theorem BM {P:Program} {f:Nat} {args:List AV} {g:Rows} {n:Nat} {R:AV->Prop} (h:Sound P f args ⟨V.ro g,n⟩ fun r0 σ'=>∃r',V.fz σ'.get 6 r0=some r'/\R r'):Sound P f args ⟨g,n⟩ fun r σ'=>R r/\σ'=⟨g,n⟩:=by
 intro hs D ι w vs S U A
 refine(zp (g0:=g) (K:=R) h (fun _ _ h=>h) S U A).mono ?_
 rintro e w' ⟨r,D',u,rfl,hR,T,S',hr⟩
 exact⟨r,g,n,D',ι,u,rfl,⟨hR,rfl⟩,T,S',U,Nat.le_refl _,hr⟩
theorem rZ.x {P:Program} (hm:P.follows .mixedOrders=true) {f:Nat} {args:List AV} {R:AV->Prop} (h:rZ P f args R) {σ:ar}:Call P f args σ fun r σ'=>R r/\σ'=σ:=
 gw (BM (fP hm (h σ)))
theorem rZ.body {P:Program} {f:Nat} {args:List AV} {R:AV->Prop} {nt na:Nat} {body:VC} {res:List mE} (hf:mV P f=some ⟨nt,na,body,res⟩) (ha:na=args.length) (h:(∀a∈args,eu a)->∀σ:ar,dx (Call P) body (j0 res fun r0 σ'=>∃r',V.fz σ'.get 6 r0=some r'/\R r') (cj args) ⟨V.ro σ.get,σ.next⟩):rZ P f args R:=fun σ=>lx hf ha fun hl=>h hl σ
theorem JQ {g:Rows} {rows:List (List AV)} {xs:List (List Nat)} {ids:List Id} (n:Nat) (h:eL Ni g rows xs ids):dM g (n+2) rows=some (xs.map fun l=>[MJ l]):=by
 induction h with
 |nil=>rw[dM];rfl
 |cons h1 _ ih=>
  rename_i x _ _ _ _ _
  rcases h1 with⟨h0,h1,_⟩|⟨id,h1,h0,h2,_⟩
  ·subst h0 h1;rw[dM,ih,ah,aq,aS];rfl
  ·have gI:x≠[]:=by rintro rfl;simp at h0
   subst h1
   rw[dM,ih,ah,aq,gz (e:=eN) (sz:=1) h2 rfl fun a=>fzN _ n a]
   simp[MJ,gI]
theorem nj.fz0 {cnt:Nat} {bs:List PB} {f:Nat->Int} {X A F:Id} {g:Rows} {nx:Nat} (h:nj cnt bs f X A F g nx):V.fz g 5 (.ptr X 0 0)=some (.cI (fy cnt bs f)):=by
 have hf:V.fz g 4 (.own F 0 bs.length)=some (.sl (dH f bs.length)):=by
  rw[gW]
  simp only[h.f,if_true]
  rw[if_pos (by rw[dt];omega),List.drop_zero,List.take_of_length_le (by rw[dt];omega),yV];rfl
 have ha:V.fz g 4 (.own A 0 cnt)=some (.sl (oY cnt bs bs.length)):=by
  obtain⟨rows,ids,h1,h2,_,_⟩:=h.a
  have hl:=h2.len
  rw[iY]at hl
  rw[gW]
  simp only[h1,if_true]
  rw[if_pos (by omega),List.drop_zero,List.take_of_length_le (by omega),JQ 1 h2]
  simp[kH,oY]
 rw[aY]
 simp only[h.x,if_true,List.getElem?_cons_zero,List.drop_zero,bh,ah,aq,aI,ck,ha,hf,Option.map_some,fy]
theorem C8 {S:Nat->Bool}:∀bs:List PB,(∀b∈bs,b.s<=4)->iM S bs<=4*bs.length
 |[],_=>by simp[iM]
 |b::bs,h=>by
  rw[q9]
  have:=C8 (S:=S) bs fun x hx=>h x (List.mem_cons_of_mem _ hx)
  have:=h b (by simp)
  simp only[List.length_cons]
  split<;>omega
theorem jE.zero {bs:List PB} {x y:Nat} (h:∀e,e<bs.length->0<=(bU bs e).s/\(bU bs e).s<=4):jE bs (fun _=>0) x y 0:=
 ⟨fun i hi=>by have:=h i hi;omega,fun S _ _=>jz fun i _=>by simp⟩
theorem IZ {bs:List PB} {b:PB} (h:b∈bs):∃e,e<bs.length/\bU bs e=b:=by
 obtain⟨e,he,rfl⟩:=List.getElem_of_mem h
 exact⟨e,he,by simp[bU,List.getD_eq_getElem?_getD,he]⟩
theorem ES (cnt:Nat) (hn:cnt<=1048576) (bs:List PB) (ok:mj cnt bs) (oQ:bs.length<=1048576) (dv:∀e,e<bs.length->0<=(bU bs e).s/\(bU bs e).s<=4) (x y:Nat) (hx:x<cnt) (hy:y<cnt) (O6:x≠y):
  rZ Tryz.prog 218 [.int .i64 cnt,.sl (bs.map aw),.int .i64 x,.int .i64 y] fun r=>∃f val,r=.gn [.cI (fy cnt bs f),.int .i64 val]/\jE bs f x y val/\∃S:Nat->Bool,S x=true/\S y=false/\val=iM S bs:=by
 refine rZ.body eI rfl fun hl σ=>?_
 clear hl
 (try((repeat(revert hN;revert N;apply Pn.out));refine wk @Nat.zero_add ?_;(repeat(refine Pn.mk ?_;intro N hN))))
 refine .inr (bp _ _ _ _ _ (fun r σ1 hq=>?_) (Hk cnt hn bs ok oQ _))
 obtain⟨X,A,F,rfl,hX,hS⟩:=hq
 refine hN _ _ ?_
 clear hN N
 have hS0:∀f val,jE bs f x y val->val<=iM (fun v=>decide (v=x)) bs:=fun f val hf=>hf.bound (decide_eq_true rfl) (decide_eq_false fun h=>O6 h.symm)
 have htot:=C8 (S:=fun v=>decide (v=x)) bs fun b hb=>by
  obtain⟨e,he,rfl⟩:=IZ hb
  exact(dv e he).2
 generalize iM (fun v=>decide (v=x)) bs=T at *
 (try((repeat(revert hN;revert N;apply Pn.out));refine wk @Nat.zero_add ?_;(repeat(refine Pn.mk ?_;intro N hN))))
 refine aQ (fun m env st=>∃(f:Nat->Int) (val:Int),m=(T-val).toNat/\0<=val/\env 10=.ptr X 0 0/\env 11=.int .i64 val/\jE bs f x y val/\nj cnt bs f X A F st.get σ1.next/\σ1.next<=st.next) T.toNat ⟨_,0,by simp,by omega,by(simp only[go_sem, ↓reduceIte,Nat.reduceEqDiff,Nat.reduceAdd,Nat.reduceSub,Nat.reduceLeDiff,reduceCtorEq]),by(simp only[go_sem, ↓reduceIte,Nat.reduceEqDiff,Nat.reduceAdd,Nat.reduceSub,Nat.reduceLeDiff,reduceCtorEq]),jE.zero dv,hS.frame (fun i hi=>rfl) (Nat.le_refl _),by(try dsimp only);omega⟩ ?_
 rintro m env_b st_b ⟨f,val,rfl,qR,b10,b11,hf,hN1,hle⟩ fE
 have b2:=fE 2 (by kernel_rfl)
 have b3:=fE 3 (by kernel_rfl)
 simp only[go_sem, ↓reduceIte,Nat.reduceEqDiff,Nat.reduceAdd,Nat.reduceSub,Nat.reduceLeDiff,reduceCtorEq]at b2 b3
 clear fE
 (try((repeat(revert hN;revert N;apply Pn.out));refine wk (tw @b2 (tw @b3 @b10)) ?_;(repeat(refine Pn.mk ?_;intro N hN))))
 refine .inr (bp _ _ _ _ _ (fun r σ2 hq=>?_) (LG cnt hn bs ok oQ dv f x y hx hy O6 val hf X A F ⟨st_b.get,_⟩ σ1.next hN1 (by(try dsimp only);omega)))
 obtain⟨b,f',rfl,P6,l5,_,kG,Sv⟩:=hq
 (try dsimp only at l5)
 refine hN _ _ ?_
 clear hN N
 cases b with
 |true=>
  have jI:=Sv rfl
  have KC:=hS0 _ _ hf
  have GK:=hS0 _ _ jI
  have hw:IntKind.i64.wrap (val+1)=val+1:=bW (by omega)
  (try((repeat(revert hN;revert N;apply Pn.out));refine wk (tw @b10 (tw @b11 @hw)) ?_;(repeat(refine Pn.mk ?_;intro N hN))))
  exact⟨_,by omega,f',val+1,rfl,by omega,sd @b10,sd (tw @b11 @hw),jI,P6,by(try dsimp only);omega⟩
 |false=>
  obtain⟨rfl,S,h1,h2,h3⟩:=kG rfl
  (try((repeat(revert hN;revert N;apply Pn.out));refine wk (tw @b10 @b11) ?_;(repeat(refine Pn.mk ?_;intro N hN))))
  have hz:=P6.fz0
  exact⟨[.ptr X 0 0,.int .i64 val],sd @Nat.zero_add,.gn [.cI (fy cnt bs f'),.int .i64 val],by simp only[fo,bK,ah,aq,hz,aI,Option.map_some],f',val,rfl,hf,S,h1,h2,h3⟩
theorem ET (cnt:Nat) (hn:cnt<=1048576) (bs:List PB) (ok:mj cnt bs) (oQ:bs.length<=1048576) (f:Nat->Int) (hs:Small bs f) (y:Nat) (hy:y<cnt):
  lv Tryz.prog 219 [.cI (fy cnt bs f),.int .i64 y] fun r=>∃l:List Nat,r=.sl (l.map eN)/\l.length<=cnt:=by
 refine lv.body eI rfl fun hl n0=>?_
 clear hl
 have hz:∀g:Rows,da (dO g) 6 [.cI (fy cnt bs f),.int .i64 (y:Int)]=some [.cI (fy cnt bs f),.int .i64 y]:=fun g=>by simp only[ah,aq,aO,aI,Option.map_some]
 (try((repeat(revert hN;revert N;apply Pn.out));refine wk @Nat.zero_add ?_;(repeat(refine Pn.mk ?_;intro N hN))))
 refine .inr (bp _ _ _ _ _ (fun r σ1 hq=>?_) ((DO cnt hn bs ok oQ f hs y hy).x mixed (hz _)))
 obtain⟨⟨out,rfl,Mg⟩,rfl⟩:=hq
 refine hN _ _ ?_
 clear hN N
 (try((repeat(revert hN;revert N;apply Pn.out));refine wk @fy.eq_1 ?_;(repeat(refine Pn.mk ?_;intro N hN))))
 refine aQ (fun n env st=>∃k:Nat,n=(cnt)-k/\k<=(cnt)/\env 7=.int .i64 (k:Int)/\(∃(o:Id) (l:List Nat),env 6=.own o 0 l.length/\st.get o=some ⟨true,1,l.map eN⟩/\o.bQ<st.next/\l.length<=k)) (cnt) ⟨0,by omega,by omega,sl @fy.eq_1,⟨⟨219002000,n0+1+1+1⟩,[],by(simp only[go_sem, ↓reduceIte,Nat.reduceEqDiff,Nat.reduceAdd,Nat.reduceSub,Nat.reduceLeDiff,reduceCtorEq])<;>rfl,by(simp only[go_sem, ↓reduceIte,Nat.reduceEqDiff,Nat.reduceAdd,Nat.reduceSub,Nat.reduceLeDiff,reduceCtorEq])<;>rfl,by(try dsimp only);omega,by simp⟩⟩ ?_
 rintro n_a env_a st_a ⟨k,rfl,ale,a7,pU⟩ dY
 have a0:=dY 0 (by kernel_rfl);have a5:=dY 5 (by kernel_rfl)
 simp only[go_sem, ↓reduceIte,Nat.reduceEqDiff,Nat.reduceAdd,Nat.reduceSub,Nat.reduceLeDiff,reduceCtorEq,fy]at a0 a5
 clear dY
 obtain⟨o,l,a6,ag,yj,FL⟩:=pU
 have qR:=dD yj
 have kR:(l.map eN).length=l.length:=by simp
 by_cases hk:(k:Int)<(cnt:Int)
 ·have cH:∀{e:Env} {gg:Rows} {nx:Nat},(e 7=.int .i64 (IntKind.i64.wrap ((k:Int)+1)))->(∃(o:Id) (l:List Nat),e 6=.own o 0 l.length/\gg o=some ⟨true,1,l.map eN⟩/\o.bQ<nx/\l.length<=(k+1))->∃m0,m0<(cnt)-k/\∃k:Nat,m0=(cnt)-k/\k<=(cnt)/\e 7=.int .i64 (k:Int)/\(∃(o:Id) (l:List Nat),e 6=.own o 0 l.length/\gg o=some ⟨true,1,l.map eN⟩/\o.bQ<nx/\l.length<=k):=fun x1 x2=>⟨_,by omega,k+1,rfl,by omega,(by rw[x1,aA (by omega)]),x2⟩
  have ui:=dC (f:=out) (show k<cnt by omega)
  rw[br]at ui
  have e1:l.length+1<=16777216:=by omega
  by_cases h0:0<=out k
  ·(try((repeat(revert hN;revert N;apply Pn.out));refine wk (tw @a7 (tw @a0 (tw @a5 (tw @a6 (tw @ag (tw @qR (tw @hk (tw @ui (tw @h0 (tw @e1 (tw @kR @fy.eq_1))))))))))) ?_;(repeat(refine Pn.mk ?_;intro N hN))))
   exact cH (sd (tw @a7 (tw @a0 (tw @a5 @fy.eq_1)))) (⟨⟨219007003,st_a.next+1+1⟩,l++[k],by rw[List.length_append];simp only[go_sem, ↓reduceIte,Nat.reduceEqDiff,Nat.reduceAdd,Nat.reduceSub,Nat.reduceLeDiff,reduceCtorEq,List.length_cons,List.length_nil],by rw[List.map_append,List.map_cons,List.map_nil];simp only[go_sem, ↓reduceIte,Nat.reduceEqDiff,Nat.reduceAdd,Nat.reduceSub,Nat.reduceLeDiff,reduceCtorEq,eN],by(try dsimp only);omega,by simp;omega⟩)
  ·(try((repeat(revert hN;revert N;apply Pn.out));refine wk (tw @a7 (tw @a0 (tw @a5 (tw @a6 (tw @ag (tw @qR (tw @hk (tw @ui (tw @h0 (tw @kR @fy.eq_1)))))))))) ?_;(repeat(refine Pn.mk ?_;intro N hN))))
   exact cH (sd (tw @a7 (tw @a0 (tw @a5 @fy.eq_1)))) (⟨o,l,sd @a6,sd @ag,by(try dsimp only);omega,by omega⟩)
 ·(try((repeat(revert hN;revert N;apply Pn.out));refine wk (tw @a7 (tw @a0 (tw @a5 (tw @a6 (tw @hk @fy.eq_1))))) ?_;(repeat(refine Pn.mk ?_;intro N hN))))
  have rn:fZ st_a.get 6 (.own o 0 l.length)=some (.sl (l.map eN)):=fj ag rfl fun b=>LC _ 4 b
  exact⟨_,rfl,_,by simp only[go_sem, ↓reduceIte,Nat.reduceEqDiff,Nat.reduceAdd,Nat.reduceSub,Nat.reduceLeDiff,reduceCtorEq,fo];exact rn,l,rfl,by omega⟩
end Go.Proofs.YtgoelphibofcmaaGreat.V

namespace Go.Proofs.YtgoelphibofcmaaGreat.V
open Go.RowKit
attribute [local irreducible] dx wpOps gp Call
attribute [local go_sem] aH fC eG fW fV cF upd cj K.av cJ AV.cells AV.cell rowOf rowsOf part ld rowAt bj bY dz eb gT bE cZ er fS eU dp eh cX cW dR dS bH aW cN bG cQ cP ee ei ef cL bP cY ec bF aL cU cw gS bl cG bI aP dd aU dB AV.undef bw bB dV ea dI dG cE ep ev cq ek ej cR cV List.getD_cons_zero List.getD_cons_succ List.getD_nil List.all_cons List.all_nil Bool.and_true Bool.true_and Bool.and_self Bool.not_true Bool.not_false Option.map_some Option.map_none Option.bind_some Option.bind_none List.length_cons List.length_nil List.take_succ_cons List.take_zero List.take_nil List.drop_succ_cons List.drop_zero List.drop_nil List.head?_cons List.map_cons List.map_nil List.getElem?_cons_zero List.getElem?_cons_succ List.cons_append List.nil_append List.append_nil List.length_map List.set_cons_zero List.set_cons_succ Nat.reduceMul eq_self Int.toNat_natCast Int.natCast_nonneg and_self true_and and_true decide_true decide_false Bool.false_eq_true Nat.zero_add Nat.add_zero List.contains_cons List.contains_nil Bool.or_false Bool.false_or beq_self_eq_true Nat.reduceBEq ne_eq not_true_eq_false not_false_eq_true Id.mk.injEq false_and and_false Nat.reduceLT Int.reduceLE Int.reduceLT Int.reduceToNat Int.reduceNeg Int.reduceAdd Nat.le_refl List.length_append beq_true beq_false Bool.not_eq_eq_eq_not or_false false_or dO ah aq aI aZ bt ck aS bf aO aY cK bK
theorem Aq (v1 v2:Int) (l1 l2:List Nat) (h1:l1.length<=1048576) (h2:l2.length<=1048576):
  lv Tryz.prog 220 [.int .i64 v1,.sl (l1.map eN),.int .i64 v2,.sl (l2.map eN)] fun r=>∃b,r=.bool b/\(v1<v2->b=true)/\(v2<v1->b=false):=by
 refine lv.body eI rfl fun hl n0=>?_
 clear hl
 have ret:∀{t:Nat} {env:Env} {σ:ar} {b:Bool} {x:Ex},(x=.ret∨x=.normal)->env t=.bool b->((v1<v2->b=true)/\(v2<v1->b=false))->j0 [.tmp t] (fun r0 σ'=>∃r',fZ σ'.get 6 r0=some r'/\∃b,r'=.bool b/\(v1<v2->b=true)/\(v2<v1->b=false)) x env σ:=by
  intro t env σ b x hx he hb
  have:∃vs,eZ env σ.get [.tmp t]=some vs/\∃r',fZ σ.get 6 (fo vs)=some r'/\∃b,r'=.bool b/\(v1<v2->b=true)/\(v2<v1->b=false):=⟨[env t],rfl,.bool b,by rw[he];exact eF _ _ _,b,rfl,hb⟩
  rcases hx with rfl|rfl
  ·exact this
  ·exact this
 have m1:(l1.map eN).length=l1.length:=by simp
 have m2:(l2.map eN).length=l2.length:=by simp
 by_cases hv:v1=v2
 ·have hd:decide (v1=v2)=true:=decide_eq_true hv
  by_cases FL:(l1.length:Int)=(l2.length:Int)
  ·have mM:decide ((l1.length:Int)=(l2.length:Int))=true:=decide_eq_true FL
   have Oq:decide (l1.length=l2.length)=true:=decide_eq_true (by omega)
   (try((repeat(revert hN;revert N;apply Pn.out));refine wk (tw @hd (tw @mM (tw @Oq (tw @m1 @m2)))) ?_;(repeat(refine Pn.mk ?_;intro N hN))))
   refine aQ (fun n env st=>∃k:Nat,n=(l1.length)-k/\k<=(l1.length)/\env 9=.int .i64 (k:Int)) (l1.length) ⟨0,by omega,by omega,sl @Nat.zero_add⟩ ?_
   rintro n_a env_a st_a ⟨k,rfl,ale,a9⟩ dY
   have a1:=dY 1 (by kernel_rfl);have a3:=dY 3 (by kernel_rfl)
   simp only[go_sem, ↓reduceIte,Nat.reduceEqDiff,Nat.reduceAdd,Nat.reduceSub,Nat.reduceLeDiff,reduceCtorEq]at a1 a3
   clear dY
   by_cases hk:(k:Int)<(l1.length:Int)
   ·have cH:∀{e:Env},(e 9=.int .i64 (IntKind.i64.wrap ((k:Int)+1)))->∃m0,m0<(l1.length)-k/\∃k:Nat,m0=(l1.length)-k/\k<=(l1.length)/\e 9=.int .i64 (k:Int):=fun x1=>⟨_,by omega,k+1,rfl,by omega,(by rw[x1,aA (by omega)])⟩
    have g1:(l1.map eN)[k]? =some (eN (l1.getD k 0)):=getD_map eN (by omega)
    have g2:(l2.map eN)[k]? =some (eN (l2.getD k 0)):=getD_map eN (by omega)
    rw[eN]at g1 g2
    by_cases he:((l1.getD k 0:Nat):Int)=((l2.getD k 0:Nat):Int)
    ·have Ot:decide (((l1.getD k 0:Nat):Int)=((l2.getD k 0:Nat):Int))=true:=decide_eq_true he
     have Rz:decide (l1.getD k 0=l2.getD k 0)=true:=decide_eq_true (by omega)
     (try((repeat(revert hN;revert N;apply Pn.out));refine wk (tw @a9 (tw @a1 (tw @a3 (tw @hk (tw @m1 (tw @g1 (tw @g2 (tw @Ot @Rz)))))))) ?_;(repeat(refine Pn.mk ?_;intro N hN))))
     exact cH (sd (tw @a9 (tw @a1 @a3)))
    ·have Ot:decide (((l1.getD k 0:Nat):Int)=((l2.getD k 0:Nat):Int))=false:=decide_eq_false he
     have Rz:decide (l1.getD k 0=l2.getD k 0)=false:=decide_eq_false (by omega)
     (try((repeat(revert hN;revert N;apply Pn.out));refine wk (tw @a9 (tw @a1 (tw @a3 (tw @hk (tw @m1 (tw @g1 (tw @g2 (tw @Ot @Rz)))))))) ?_;(repeat(refine Pn.mk ?_;intro N hN))))
     exact ret (.inl rfl) (by simp only[go_sem, ↓reduceIte,Nat.reduceEqDiff,Nat.reduceAdd,Nat.reduceSub,Nat.reduceLeDiff,reduceCtorEq];rfl) ⟨fun h=>by omega,fun h=>by omega⟩
   ·(try((repeat(revert hN;revert N;apply Pn.out));refine wk (tw @a9 (tw @a1 (tw @a3 (tw @hk @m1)))) ?_;(repeat(refine Pn.mk ?_;intro N hN))))
    exact ret (b:=false) (.inl rfl) (sd @Nat.zero_add) ⟨fun h=>by omega,fun h=>by omega⟩
  ·have mM:decide ((l1.length:Int)=(l2.length:Int))=false:=decide_eq_false FL
   have Oq:decide (l1.length=l2.length)=false:=decide_eq_false (by omega)
   (try((repeat(revert hN;revert N;apply Pn.out));refine wk (tw @hd (tw @mM (tw @Oq (tw @m1 @m2)))) ?_;(repeat(refine Pn.mk ?_;intro N hN))))
   exact ret (.inl rfl) (by simp only[go_sem, ↓reduceIte,Nat.reduceEqDiff,Nat.reduceAdd,Nat.reduceSub,Nat.reduceLeDiff,reduceCtorEq];rfl) ⟨fun h=>by omega,fun h=>by omega⟩
 ·have hd:decide (v1=v2)=false:=decide_eq_false hv
  (try((repeat(revert hN;revert N;apply Pn.out));refine wk @hd ?_;(repeat(refine Pn.mk ?_;intro N hN))))
  exact ret (b:=decide (v1<v2)) (.inl rfl) (sd @Nat.zero_add) ⟨fun h=>decide_eq_true h,fun h=>decide_eq_false (by omega)⟩
def tu (bs:List PB) (cnt:Nat) (iT:Int) (k:Nat):Prop:=(k=1/\iT= -1)∨(0<=iT/\(∀z,1<=z->z<k->∀S:Nat->Bool,S 0=true->S z=false->iT<=iM S bs)/\∃S:Nat->Bool,S 0=true/\(∃z,z<cnt/\S z=false)/\iT=iM S bs)
theorem jE.nn {bs:List PB} {val:Int} {S:Nat->Bool} (dv:∀e,e<bs.length->0<=(bU bs e).s/\(bU bs e).s<=4) (h:val=iM S bs):0<=val:=by
 rw[h,tL]
 have:=qF (f:=fun _=>0) (g:=fun i=>if S (bU bs i).a=S (bU bs i).b then 0 else(bU bs i).s) (n:=bs.length) fun i hi=>by
  have:=dv i hi
  split<;>omega
 rw[jz fun _ _=>rfl]at this
 exact this
theorem tu.done {bs:List PB} {cnt:Nat} {iT:Int} (hc:2<=cnt) (h:tu bs cnt iT cnt) (t:Int):t<=iT↔j7 cnt bs t:=by
 rcases h with⟨h,_⟩|⟨_,h1,S,h2,⟨z,hz,lu⟩,h3⟩
 ·omega
 ·constructor
  ·intro ht S h0 ⟨y,hy,hy2⟩
   have:y≠0:=by rintro rfl;rw[h0]at hy2;cases hy2
   have:=h1 y (by omega) hy S h0 hy2
   omega
  ·intro hH
   rw[h3];exact hH S h2 ⟨z,hz,lu⟩
theorem yq (cnt:Nat) (h2:2<=cnt) (hn:cnt<=1048576) (bs:List PB) (ok:mj cnt bs) (oQ:bs.length<=1048576) (dv:∀e,e<bs.length->0<=(bU bs e).s/\(bU bs e).s<=4):
  rZ Tryz.prog 194 [.int .i64 cnt,.sl (bs.map aw)] fun r=>∃iT p,r=.gn [.int .i64 iT,p]/\∀t:Int,t<=iT↔j7 cnt bs t:=by
 refine rZ.body eI rfl fun hl σ=>?_
 clear hl
 (try((repeat(revert hN;revert N;apply Pn.out));refine wk @Nat.zero_add ?_;(repeat(refine Pn.mk ?_;intro N hN))))
 have z0:∀(g:Rows) (id:Id),g id=some ⟨true,1,[]⟩->V.fz (dO g) 6 (.own id 0 0)=some (.sl (([]:List Nat).map eN))/\V.fz g 5 (.own id 0 0)=some (.sl (([]:List Nat).map eN)):=fun g id h=>by
  have h':dO g id=some ⟨true,1,[]⟩:=by simp[dO,h]
  constructor
  ·rw[gW];simp only[h',if_true];rw[if_pos (by simp)];simp[nF]
  ·rw[gW];simp only[h,if_true];rw[if_pos (by simp)];simp[nF]
 refine aQ (fun m env st=>∃(k:Nat) (iT:Int) (l:List Nat) (p:AV),m=cnt-k/\1<=k/\k<=cnt/\env 8=.int .i64 (k:Int)/\env 6=.int .i64 iT/\env 7=p/\V.fz (dO st.get) 6 p=some (.sl (l.map eN))/\V.fz st.get 5 p=some (.sl (l.map eN))/\l.length<=cnt/\tu bs cnt iT k) (cnt-1) ⟨1,-1,[],.own ⟨194002000,σ.next+1+1⟩ 0 0,rfl,by omega,by omega,by(simp only[go_sem, ↓reduceIte,Nat.reduceEqDiff,Nat.reduceAdd,Nat.reduceSub,Nat.reduceLeDiff,reduceCtorEq])<;>rfl,by(simp only[go_sem, ↓reduceIte,Nat.reduceEqDiff,Nat.reduceAdd,Nat.reduceSub,Nat.reduceLeDiff,reduceCtorEq])<;>rfl,by(simp only[go_sem, ↓reduceIte,Nat.reduceEqDiff,Nat.reduceAdd,Nat.reduceSub,Nat.reduceLeDiff,reduceCtorEq])<;>rfl,(z0 _ _ (sd @Nat.zero_add)).1,(z0 _ _ (sd @Nat.zero_add)).2,by simp,.inl ⟨rfl,rfl⟩⟩ ?_
 rintro m env_b st_b ⟨k,iT,l,p,rfl,vz,ug,b8,b6,b7,zl,lu,hl,hB⟩ fE
 have b0:=fE 0 (by kernel_rfl)
 have b1:=fE 1 (by kernel_rfl)
 simp only[go_sem, ↓reduceIte,Nat.reduceEqDiff,Nat.reduceAdd,Nat.reduceSub,Nat.reduceLeDiff,reduceCtorEq]at b0 b1
 clear fE z0
 by_cases hk:(k:Int)<(cnt:Int)
 ·have fG:k<cnt:=by omega
  have hFl:=ES cnt hn bs ok oQ dv 0 k (by omega) fG (by omega)
  rw[show(((0:Nat):Int))=0 from rfl]at hFl
  (try((repeat(revert hN;revert N;apply Pn.out));refine wk (tw @b0 (tw @b1 (tw @b6 (tw @b7 (tw @b8 @hk))))) ?_;(repeat(refine Pn.mk ?_;intro N hN))))
  refine .inr (bp _ _ _ _ _ (fun r σ1 hq=>?_) (hFl.x mixed))
  obtain⟨⟨f,val,rfl,hf,S,LU,LV,P7⟩,rfl⟩:=hq
  refine hN _ _ ?_
  clear hN N
  have JB:=uV dv hf.le
  have rE:=jE.nn (val:=val) dv P7
  (try((repeat(revert hN;revert N;apply Pn.out));refine wk (tw @b0 (tw @b1 (tw @b6 (tw @b7 @b8)))) ?_;(repeat(refine Pn.mk ?_;intro N hN))))
  refine .inr (bp _ _ _ _ _ (fun r σ1 hq=>?_) ((ET cnt hn bs ok oQ f JB k fG).x mixed (by simp only[ah,aq,aO,aI,Option.map_some])))
  obtain⟨⟨l',rfl,IM⟩,rfl⟩:=hq
  refine hN _ _ ?_
  clear hN N
  have hw:IntKind.i64.wrap ((k:Int)+1)=((k+1:Nat):Int):=aA (by omega)
  have Px:(∀z,1<=z->z<k->∀S:Nat->Bool,S 0=true->S z=false->val<=iM S bs)->tu bs cnt val (k+1):=fun h=>.inr ⟨rE,fun z zl lu S' h0 h1=>by
   by_cases vD:z=k
   ·subst vD;exact hf.bound h0 h1
   ·exact h z zl (by omega) S' h0 h1,S,LU,⟨k,fG,LV⟩,P7⟩
  by_cases jK:iT<0
  ·have zU:k=1:=by
    rcases hB with⟨h,_⟩|⟨h,_⟩
    ·exact h
    ·omega
   (try((repeat(revert hN;revert N;apply Pn.out));refine wk (tw @b0 (tw @b1 (tw @b6 (tw @b7 (tw @b8 (tw @jK @hw)))))) ?_;(repeat(refine Pn.mk ?_;intro N hN))))
   refine⟨_,?_,k+1,val,l',.sl (l'.map eN),rfl,by omega,by omega,sd (tw @b8 @hw),sd @Nat.zero_add,sd @Nat.zero_add,ck _ _ _,ck _ _ _,IM,Px fun z h1 h2=>by omega⟩
   omega
  ·have zU:(∀z,1<=z->z<k->∀S:Nat->Bool,S 0=true->S z=false->iT<=iM S bs)/\∃S:Nat->Bool,S 0=true/\(∃z,z<cnt/\S z=false)/\iT=iM S bs:=by
    rcases hB with⟨_,h⟩|⟨_,h⟩
    ·omega
    ·exact h
   (try((repeat(revert hN;revert N;apply Pn.out));refine wk (tw @b0 (tw @b1 (tw @b6 (tw @b7 (tw @b8 (tw @jK @hw)))))) ?_;(repeat(refine Pn.mk ?_;intro N hN))))
   refine .inr (bp _ _ _ _ _ (fun r σ1 hq=>?_) ((Aq val iT l' l (by omega) (by omega)).x mixed (by simp only[ah,aq,ck,aI,zl,Option.map_some])))
   obtain⟨⟨b,rfl,KC,GK⟩,rfl⟩:=hq
   refine hN _ _ ?_
   clear hN N
   cases b with
   |true=>
    have Sq:val<=iT:=by
     rcases Int.lt_or_le iT val with h|h
     ·exact absurd (GK h) (by simp)
     ·exact h
    (try((repeat(revert hN;revert N;apply Pn.out));refine wk (tw @b0 (tw @b1 (tw @b6 (tw @b7 (tw @b8 @hw))))) ?_;(repeat(refine Pn.mk ?_;intro N hN))))
    refine⟨_,?_,k+1,val,l',.sl (l'.map eN),rfl,by omega,by omega,sd (tw @b8 @hw),sd @Nat.zero_add,sd @Nat.zero_add,ck _ _ _,ck _ _ _,IM,Px fun z h1 h2 S' h3 h4=>by have:=zU.1 z h1 h2 S' h3 h4;omega⟩
    omega
   |false=>
    have Sq:iT<=val:=by
     rcases Int.lt_or_le val iT with h|h
     ·exact absurd (KC h) (by simp)
     ·exact h
    (try((repeat(revert hN;revert N;apply Pn.out));refine wk (tw @b0 (tw @b1 (tw @b6 (tw @b7 (tw @b8 @hw))))) ?_;(repeat(refine Pn.mk ?_;intro N hN))))
    refine⟨_,?_,k+1,iT,l,p,rfl,by omega,by omega,sd (tw @b8 @hw),sd @b6,sd @b7,zl,lu,hl,.inr ⟨by omega,fun z h1 h2 S' h3 h4=>?_,zU.2⟩⟩
    ·omega
    ·by_cases vD:z=k
     ·subst vD;have:=hf.bound h3 h4;omega
     ·exact zU.1 z h1 (by omega) S' h3 h4
 ·have lq:k=cnt:=by omega
  (try((repeat(revert hN;revert N;apply Pn.out));refine wk (tw @b0 (tw @b1 (tw @b6 (tw @b7 (tw @b8 @hk))))) ?_;(repeat(refine Pn.mk ?_;intro N hN))))
  exact⟨[.int .i64 iT,p],sd @Nat.zero_add,.gn [.int .i64 iT,.sl (l.map eN)],by simp only[fo,bK,ah,aq,lu,aI,Option.map_some],iT,_,rfl,tu.done h2 (lq▸hB)⟩
end Go.Proofs.YtgoelphibofcmaaGreat.V

namespace Go.Proofs.YtgoelphibofcmaaGreat.V
open Go.RowKit
inductive nf:List AV->List AV->Prop
 |nil:nf [] []
 |same (a) {l l'}:nf l l'->nf (a::l) (a::l')
 |ptr (cs rest) {l l'}:nf l l'->nf (.cI (cs++rest)::l) (.cI cs::l')
 |b4 {l l'}:nf l l'->nf (.b4::l) (.sl []::l')
theorem J7 {P:Program} {w:World} {D:Nat->Prop} {ι:Names} {cs rest:List AV} {v:Value} (h:cu P w D ι (.cI (cs++rest)) v):cu P w D ι (.cI cs) v:=by
 obtain⟨b,o,vs,rfl,h1,h2,h3,h4⟩:=ko h
 exact .eD _ _ (.cI cs b o vs h1 (fun a ha=>h2 a (List.mem_append_left _ ha)) (fun j hj=>h3 j (by rw[List.length_append];omega)) fun j a ha=>h4 j a (by
  have:=(List.getElem?_eq_some_iff.1 ha).1
  rw[List.getElem?_append_left this];exact ha))
theorem J9 {P:Program} {w:World} {D:Nat->Prop} {ι:Names} {v:Value} (h:cu P w D ι .b4 v):cu P w D ι (.sl []) v:=by
 cases h with
 |eD _ _ h=>
  cases h with
  |b4=>exact .eD _ _ (.zm none 0 (Nat.zero_le _))
theorem nf.len {l l':List AV} (h:nf l l'):l'.length=l.length:=by induction h<;>simp_all
theorem nf.get {P:Program} {w:World} {D:Nat->Prop} {ι:Names} {l l':List AV} (h:nf l l'):∀{j:Nat} {a':AV},l'[j]? =some a'->∃a,l[j]? =some a/\∀v,cu P w D ι a v->cu P w D ι a' v:=by
 induction h with
 |nil=>intro j a' hj;simp at hj
 |same a _ ih=>
  intro j a' hj
  cases j with
  |zero=>simp at hj;subst hj;exact⟨a,rfl,fun _ h=>h⟩
  |succ j=>exact ih (by simpa using hj)
 |ptr cs rest _ ih=>
  intro j a' hj
  cases j with
  |zero=>simp at hj;subst hj;exact⟨_,rfl,fun _ h=>J7 h⟩
  |succ j=>exact ih (by simpa using hj)
 |b4 _ ih=>
  intro j a' hj
  cases j with
  |zero=>simp at hj;subst hj;exact⟨_,rfl,fun _ h=>J9 h⟩
  |succ j=>exact ih (by simpa using hj)
theorem Call.cut {P:Program} (hm:P.follows .mixedOrders=true) {f:Nat} {args eB:List AV} {σ:ar} {K:AV->ar->Prop} (hc:nf args eB) (h:Call P f eB σ K):Call P f args σ K:=
 gw fun hs D ι w vs S U A=>fP hm h hs D ι w vs S U ⟨by rw[A.1,hc.len],fun j a' hj=>by
  obtain⟨a,ha,hr⟩:=hc.get (P:=P) (w:=w) (D:=D) (ι:=ι) hj
  obtain⟨u,hu,hv⟩:=A.2 j a ha
  exact⟨u,hu,hr u hv⟩⟩
theorem aj.cut {P:Program} (hm:P.follows .mixedOrders=true) {f:Nat} {args eB:List AV} {r:AV} (hc:nf args eB) (h:aj P f eB r):aj P f args r:=fun n=>(h n).cut hm hc
theorem lS.cut {P:Program} (hm:P.follows .mixedOrders=true) {f:Nat} {args eB:List AV} {r:AV} (hc:nf args eB) (h:lS P f eB r):lS P f args r:=fun σ=>Call.cut hm hc (h σ)
end Go.Proofs.YtgoelphibofcmaaGreat.V

namespace Go.Proofs.YtgoelphibofcmaaGreat.V
open Go.RowKit
attribute [local irreducible] dx wpOps gp Call
attribute [local go_sem] aH fC eG fW fV cF upd cj K.av cJ AV.cells AV.cell rowOf rowsOf part ld rowAt bj bY dz eb gT bE cZ er fS eU dp eh cX cW dR dS bH aW cN bG cQ cP ee ei ef cL bP cY ec bF aL cU cw gS bl cG bI aP dd aU dB AV.undef bw bB dV ea dI dG cE ep ev cq ek ej cR cV List.getD_cons_zero List.getD_cons_succ List.getD_nil List.all_cons List.all_nil Bool.and_true Bool.true_and Bool.and_self Bool.not_true Bool.not_false Option.map_some Option.map_none Option.bind_some Option.bind_none List.length_cons List.length_nil List.take_succ_cons List.take_zero List.take_nil List.drop_succ_cons List.drop_zero List.drop_nil List.head?_cons List.map_cons List.map_nil List.getElem?_cons_zero List.getElem?_cons_succ List.cons_append List.nil_append List.append_nil List.length_map List.set_cons_zero List.set_cons_succ Nat.reduceMul eq_self Int.toNat_natCast Int.natCast_nonneg and_self true_and and_true decide_true decide_false Bool.false_eq_true Nat.zero_add Nat.add_zero List.contains_cons List.contains_nil Bool.or_false Bool.false_or beq_self_eq_true Nat.reduceBEq ne_eq not_true_eq_false not_false_eq_true Id.mk.injEq false_and and_false Nat.reduceLT Int.reduceLE Int.reduceLT Int.reduceToNat Int.reduceNeg Int.reduceAdd Nat.le_refl List.length_append beq_true beq_false Bool.not_eq_eq_eq_not or_false false_or dO ah aq aI aZ bt ck aS bf aO aY cK bK
theorem Kd {s:au} (hS:ig s) (a d:Int):rT s (di (dj s a) d)<=4:=by
 have hF:=hS.form
 have e9:di (dj s a) d=0∨(0<=di (dj s a) d/\di (dj s a) d<=s.ay.length):=by
  unfold di dj
  rw[List.getD_eq_getElem?_getD,List.getD_eq_getElem?_getD]
  rcases ht:s.ai[a.toNat]? with _|t
  ·exact .inl (by simp[yE])
  ·have OX:=List.mem_of_getElem? ht
   simp only[Option.getD_some]
   rcases hg:t.bV[d.toNat]? with _|g
   ·exact .inl rfl
   ·exact .inr (hF.ub t OX g (List.mem_of_getElem? hg))
 unfold rT
 by_cases h0:di (dj s a) d=0
 ·rw[if_pos h0];omega
 ·rw[if_neg h0]
  have hk:(di (dj s a) d-1).toNat<s.ay.length:=by omega
  have:=dW (hS.PW _ hk).2.1
  unfold oI at this
  unfold ph
  omega
theorem zB {s:au} (hS:ig s) (a d b:Int):gF s a d b<=4:=by
 unfold gF
 split
 ·exact Kd hS a d
 ·omega
theorem Ed {s:au} {l:List ad} (hS:ig s) {i:Nat} (hi:i<l.length) {d:Int}:∀b∈lY s l i d,b.a<l.length/\b.b<l.length/\0<=b.s/\b.s<=4:=by
 intro b hb
 unfold lY at hb
 split at hb
 ·rename_i h
  simp only[List.mem_singleton]at hb
  subst hb
  exact⟨hi,(kU h.1).1,by simp only;omega,zB hS ..⟩
 ·cases hb
theorem wD {s:au} {l:List ad} (hS:ig s):∀b∈cz s l,b.a<l.length/\b.b<l.length/\0<=b.s/\b.s<=4:=by
 intro b hb
 simp only[cz,gy,fF,List.mem_flatMap,List.mem_range]at hb
 obtain⟨i,hi,j,_,hb⟩:=hb
 exact Ed hS hi b hb
theorem oZ {s:au} {l:List ad} (hF:jg l):(cz s l).length<=1000:=by
 have:=r9 s l l.length
 have:=hF.rf
 rw[cz];omega
theorem Gc {bs:List PB} {e:Nat} (h:e<bs.length):bU bs e∈bs:=by
 rw[bU,List.getD_eq_getElem?_getD,List.getElem?_eq_getElem h];exact List.getElem_mem h
theorem EE {n:Nat} {bs:List PB} {t:Int} (h:n<2):j7 n bs t:=fun S h0 ⟨y,hy,hf⟩=>by
 have:y=0:=by omega
 subst this;rw[h0]at hf;cases hf
def gU (s:au) (l:List ad) (t:Int):Nat:=(leads l.length (dX (aF t (cz s l)))).length
noncomputable def mB (s:au) (l:List ad) (t:Int):Bool:=@decide (n9 l.length (cz s l) t) (Classical.propDecidable _)
def re (s:au) (l:List ad) (t:Int):Int:=if 64<gU s l t then 4 else 0
theorem lO {s:au} {l:List ad} {t:Int} {p:Prop} [Decidable p] (h:p↔n9 l.length (cz s l) t):decide p=mB s l t:=by
 letI:=Classical.propDecidable (n9 l.length (cz s l) t)
 unfold mB
 by_cases hp:p
 ·rw[decide_eq_true hp];exact(decide_eq_true (h.1 hp)).symm
 ·rw[decide_eq_false hp];exact(decide_eq_false fun k=>hp (h.2 k)).symm
theorem As (s:au) (l:List ad) (t:Int) (hS:ig s) (hA:jn s l):aj Tryz.prog 158 [.cI (aa s),.cI [.sl (l.map ab)],.int .i64 t] (.gn [.bool (mB s l t),.int .i64 (re s l t)]):=by
 refine aj.body eI rfl fun hl n0=>?_
 clear hl
 have hb:=wD (l:=l) hS
 have oQ:=oZ (s:=s) hA.1
 have GQ:=hA.1.rf
 have vp:=Cd s l hS.form hA
 have IS:=Ar l.length (by omega) (cz s l) (fun b h=>⟨(hb b h).1,(hb b h).2.1⟩) (by omega) t
 have hL:=su (aF t (cz s l))
 have e9:=CC hL (fun b h=>⟨(hb b h).1,(hb b h).2.1⟩)
 have hlen:=(mb (dX (aF t (cz s l))) (cz s l)).2
 have nH:=ju l.length (dX (aF t (cz s l)))
 have fH:(l.map ab).length=l.length:=by simp
 by_cases sP:(64:Int)<(gU s l t:Int)
 ·have sQ:64<gU s l t:=by omega
  have hd:mB s l t=false:=(lO (p:=False) ⟨False.elim,fun h=>by have:=h.1;unfold gU at sQ;omega⟩).symm.trans (by simp)
  rw[gU]at sP
  (repeat(first|((repeat(revert hN;revert N;apply Pn.out));refine wk (tw @aa.eq_1 (tw @sP @fH)) ?_;(repeat(refine Pn.mk ?_;intro N hN)))|((try apply Or.inl);refine⟨_,aj.x (vp) (sd (tw @aa.eq_1 (tw @sP @fH))),?_⟩;refine hN _ _ ?_;clear hN N)|((try apply Or.inl);refine⟨_,aj.x (IS) (sd (tw @aa.eq_1 (tw @sP @fH))),?_⟩;refine hN _ _ ?_;clear hN N)))
  exact gP (.inl rfl) (r1:=.bool false) (r2:=.int .i64 4) (sd @Nat.zero_add) (sd @Nat.zero_add) (by rw[hd,re,if_pos sQ];simp only[eo,aX,bD,eF,dQ,Option.map_some])
 have sQ:¬64<gU s l t:=by omega
 have hf:re s l t=0:=by rw[re,if_neg sQ]
 by_cases h2:(gU s l t:Int)<2
 ·have hd:mB s l t=true:=(lO (p:=True) ⟨fun _=>⟨by unfold gU at sQ;omega,EE (by unfold gU at h2;omega)⟩,fun _=>trivial⟩).symm.trans (by simp)
  rw[gU]at sP h2
  (repeat(first|((repeat(revert hN;revert N;apply Pn.out));refine wk (tw @aa.eq_1 (tw @sP (tw @h2 @fH))) ?_;(repeat(refine Pn.mk ?_;intro N hN)))|((try apply Or.inl);refine⟨_,aj.x (vp) (sd (tw @aa.eq_1 (tw @sP (tw @h2 @fH)))),?_⟩;refine hN _ _ ?_;clear hN N)|((try apply Or.inl);refine⟨_,aj.x (IS) (sd (tw @aa.eq_1 (tw @sP (tw @h2 @fH)))),?_⟩;refine hN _ _ ?_;clear hN N)))
  exact gP (.inl rfl) (r1:=.bool true) (r2:=.int .i64 0) (sd @Nat.zero_add) (sd @Nat.zero_add) (by rw[hd,hf];simp only[eo,aX,bD,eF,dQ,Option.map_some])
 have Mn:=yq (gU s l t) (by omega) (by unfold gU;omega) (eP (dX (aF t (cz s l))) (cz s l)) (fun e he=>by have:=e9 _ (Gc he);exact⟨this.1,this.2.1,this.2.2.1⟩) (by omega) (fun e he=>by
  obtain⟨_,_,_,c,hc,dn⟩:=e9 _ (Gc he)
  rw[dn];have:=hb c hc;omega)
 rw[gU]at sP h2 Mn
 (repeat(first|((repeat(revert hN;revert N;apply Pn.out));refine wk (tw @aa.eq_1 (tw @sP (tw @h2 @fH))) ?_;(repeat(refine Pn.mk ?_;intro N hN)))|((try apply Or.inl);refine⟨_,aj.x (vp) (sd (tw @aa.eq_1 (tw @sP (tw @h2 @fH)))),?_⟩;refine hN _ _ ?_;clear hN N)|((try apply Or.inl);refine⟨_,aj.x (IS) (sd (tw @aa.eq_1 (tw @sP (tw @h2 @fH)))),?_⟩;refine hN _ _ ?_;clear hN N)))
 refine .inr (bp _ _ _ _ _ (fun r σ1 hq=>?_) (Mn.x mixed))
 obtain⟨⟨iT,p,rfl,Oi⟩,rfl⟩:=hq
 refine hN _ _ ?_
 clear hN N
 (try((repeat(revert hN;revert N;apply Pn.out));refine wk @Nat.zero_add ?_;(repeat(refine Pn.mk ?_;intro N hN))))
 exact gP (.inl rfl) (r1:=.bool (decide (t<=iT))) (r2:=.int .i64 0) (sd @Nat.zero_add) (sd @Nat.zero_add) (by
  rw[hf,lO (s:=s) (l:=l) (t:=t) (p:=t<=iT) ((Oi t).trans (B3.trans ⟨fun h=>⟨by unfold gU at sQ;omega,h⟩,fun h=>h.2⟩))]
  simp only[eo,aX,bD,eF,dQ,Option.map_some])
theorem rJ (t:Int):aj Tryz.prog 157 [.int .i64 t] (.bool (iI t 1 16)):=by
 refine aj.body eI rfl fun hl n0=>?_
 clear hl
 have h:=kW t 1 16
 (repeat(first|((repeat(revert hN;revert N;apply Pn.out));refine wk @Nat.zero_add ?_;(repeat(refine Pn.mk ?_;intro N hN)))|((try apply Or.inl);refine⟨_,aj.x (h) (sd @Nat.zero_add),?_⟩;refine hN _ _ ?_;clear hN N)))
 exact aM (b:=iI t 1 16) (.inl rfl) (sd @Nat.zero_add) rfl
structure vH (s:aC):Prop where
 set:ig s.aK
 yL:jn s.aK s.bc.ai
 some:1<=s.bc.ai.length
 MP:iI s.az 1 16=true
 holds:n9 s.bc.ai.length (cz s.aK s.bc.ai) s.az
noncomputable def me (s:aC):Bool:=@decide (vH s) (Classical.propDecidable _)
theorem uY {s:aC}:me s=true↔vH s:=by simp[me]
theorem jD {s:aC} (h:¬vH s):false=me s:=by simp[me,h]
theorem AR {s:aC} (h:vH s):true=me s:=by simp[me,h]
theorem oy {s:au} {l:List ad} {t:Int}:mB s l t=true↔n9 l.length (cz s l) t:=by simp[mB]
theorem JM (s:aC) (hn:gx s.aK) (hg:s.aK.ay.length<=1048576) (ht:s.aK.ai.length<=1048576):aj Tryz.prog 96 [.cI (ax s)] (.bool (me s)):=by
 refine aj.body eI rfl fun hl n0=>?_
 clear hl
 have h1:=(JL s.aK hn hg ht).cut mixed (.ptr _ [.sl (s.bc.ai.map ab),.int .i64 s.az] .nil)
 by_cases hS:ig s.aK
 ·rw[lN.2 hS]at h1
  have h2:=(DE s.aK s.bc.ai).cut mixed (.ptr _ [.sl (s.bc.ai.map ab),.int .i64 s.az] (.ptr _ [.int .i64 s.az] .nil))
  by_cases hA:jn s.aK s.bc.ai
  ·rw[ly.2 hA]at h2
   by_cases h0:(s.bc.ai.length:Int)=0
   ·have hd:decide ((s.bc.ai.length:Int)=0)=true:=decide_eq_true h0
    have kG:false=me s:=jD fun h=>by have:=h.some;omega
    generalize fH:(s.bc.ai.map ab).length=len at *
    (repeat(first|((repeat(revert hN;revert N;apply Pn.out));refine wk (tw @ax.eq_1 (tw @aa.eq_1 @hd)) ?_;(repeat(refine Pn.mk ?_;intro N hN)))|((try apply Or.inl);refine⟨_,aj.x (h1) (sd (tw @ax.eq_1 (tw @aa.eq_1 @hd))),?_⟩;refine hN _ _ ?_;clear hN N)|((try apply Or.inl);refine⟨_,aj.x (h2) (sd (tw @ax.eq_1 (tw @aa.eq_1 @hd))),?_⟩;refine hN _ _ ?_;clear hN N)))
    exact aM (b:=false) (.inl rfl) (sd @Nat.zero_add) kG
   ·have hd:decide ((s.bc.ai.length:Int)=0)=false:=decide_eq_false h0
    have h3:=rJ s.az
    cases hT:iI s.az 1 16
    ·rw[hT]at h3
     (repeat(first|((repeat(revert hN;revert N;apply Pn.out));refine wk (tw @ax.eq_1 (tw @aa.eq_1 @hd)) ?_;(repeat(refine Pn.mk ?_;intro N hN)))|((try apply Or.inl);refine⟨_,aj.x (h1) (sd (tw @ax.eq_1 (tw @aa.eq_1 @hd))),?_⟩;refine hN _ _ ?_;clear hN N)|((try apply Or.inl);refine⟨_,aj.x (h2) (sd (tw @ax.eq_1 (tw @aa.eq_1 @hd))),?_⟩;refine hN _ _ ?_;clear hN N)|((try apply Or.inl);refine⟨_,aj.x (h3) (sd (tw @ax.eq_1 (tw @aa.eq_1 @hd))),?_⟩;refine hN _ _ ?_;clear hN N)))
     exact aM (b:=false) (.inl rfl) (sd @Nat.zero_add) (jD fun h=>by have:=h.MP;rw[hT]at this;cases this)
    ·rw[hT]at h3
     have h4:=(As s.aK s.bc.ai s.az hS hA).cut mixed (.ptr _ [.sl (s.bc.ai.map ab),.int .i64 s.az] (.ptr _ [.int .i64 s.az] (.same _ .nil)))
     cases hB:mB s.aK s.bc.ai s.az
     ·rw[hB]at h4
      (repeat(first|((repeat(revert hN;revert N;apply Pn.out));refine wk (tw @ax.eq_1 (tw @aa.eq_1 @hd)) ?_;(repeat(refine Pn.mk ?_;intro N hN)))|((try apply Or.inl);refine⟨_,aj.x (h1) (sd (tw @ax.eq_1 (tw @aa.eq_1 @hd))),?_⟩;refine hN _ _ ?_;clear hN N)|((try apply Or.inl);refine⟨_,aj.x (h2) (sd (tw @ax.eq_1 (tw @aa.eq_1 @hd))),?_⟩;refine hN _ _ ?_;clear hN N)|((try apply Or.inl);refine⟨_,aj.x (h3) (sd (tw @ax.eq_1 (tw @aa.eq_1 @hd))),?_⟩;refine hN _ _ ?_;clear hN N)|((try apply Or.inl);refine⟨_,aj.x (h4) (sd (tw @ax.eq_1 (tw @aa.eq_1 @hd))),?_⟩;refine hN _ _ ?_;clear hN N)))
      exact aM (b:=false) (.inl rfl) (sd @Nat.zero_add) (jD fun h=>by have:=oy.2 h.holds;rw[hB]at this;cases this)
     ·have hP:=oy.1 hB
      have hf:re s.aK s.bc.ai s.az=0:=by
       have:=hP.1
       rw[re,if_neg (by unfold gU;omega)]
      rw[hB,hf]at h4
      (repeat(first|((repeat(revert hN;revert N;apply Pn.out));refine wk (tw @ax.eq_1 (tw @aa.eq_1 @hd)) ?_;(repeat(refine Pn.mk ?_;intro N hN)))|((try apply Or.inl);refine⟨_,aj.x (h1) (sd (tw @ax.eq_1 (tw @aa.eq_1 @hd))),?_⟩;refine hN _ _ ?_;clear hN N)|((try apply Or.inl);refine⟨_,aj.x (h2) (sd (tw @ax.eq_1 (tw @aa.eq_1 @hd))),?_⟩;refine hN _ _ ?_;clear hN N)|((try apply Or.inl);refine⟨_,aj.x (h3) (sd (tw @ax.eq_1 (tw @aa.eq_1 @hd))),?_⟩;refine hN _ _ ?_;clear hN N)|((try apply Or.inl);refine⟨_,aj.x (h4) (sd (tw @ax.eq_1 (tw @aa.eq_1 @hd))),?_⟩;refine hN _ _ ?_;clear hN N)))
      exact aM (b:=true) (.inl rfl) (sd @Nat.zero_add) (AR ⟨hS,hA,by omega,hT,hP⟩)
  ·have hb:oH s.aK s.bc.ai=false:=Bool.eq_false_iff.2 fun h=>hA (ly.1 h)
   rw[hb]at h2
   (repeat(first|((repeat(revert hN;revert N;apply Pn.out));refine wk (tw @ax.eq_1 @aa.eq_1) ?_;(repeat(refine Pn.mk ?_;intro N hN)))|((try apply Or.inl);refine⟨_,aj.x (h1) (sd (tw @ax.eq_1 @aa.eq_1)),?_⟩;refine hN _ _ ?_;clear hN N)|((try apply Or.inl);refine⟨_,aj.x (h2) (sd (tw @ax.eq_1 @aa.eq_1)),?_⟩;refine hN _ _ ?_;clear hN N)))
   exact aM (b:=false) (.inl rfl) (sd @Nat.zero_add) (jD fun h=>hA h.yL)
 ·have hb:pK s.aK=false:=Bool.eq_false_iff.2 fun h=>hS (lN.1 h)
  rw[hb]at h1
  (repeat(first|((repeat(revert hN;revert N;apply Pn.out));refine wk (tw @ax.eq_1 @aa.eq_1) ?_;(repeat(refine Pn.mk ?_;intro N hN)))|((try apply Or.inl);refine⟨_,aj.x (h1) (sd (tw @ax.eq_1 @aa.eq_1)),?_⟩;refine hN _ _ ?_;clear hN N)))
  exact aM (b:=false) (.inl rfl) (sd @Nat.zero_add) (jD fun h=>hS h.set)
end Go.Proofs.YtgoelphibofcmaaGreat.V

namespace Go.Proofs.YtgoelphibofcmaaGreat.V
open Go.RowKit
attribute [local irreducible] dx wpOps gp Call
attribute [local go_sem] aH fC eG fW fV cF upd cj K.av cJ AV.cells AV.cell rowOf rowsOf part ld rowAt bj bY dz eb gT bE cZ er fS eU dp eh cX cW dR dS bH aW cN bG cQ cP ee ei ef cL bP cY ec bF aL cU cw gS bl cG bI aP dd aU dB AV.undef bw bB dV ea dI dG cE ep ev cq ek ej cR cV List.getD_cons_zero List.getD_cons_succ List.getD_nil List.all_cons List.all_nil Bool.and_true Bool.true_and Bool.and_self Bool.not_true Bool.not_false Option.map_some Option.map_none Option.bind_some Option.bind_none List.length_cons List.length_nil List.take_succ_cons List.take_zero List.take_nil List.drop_succ_cons List.drop_zero List.drop_nil List.head?_cons List.map_cons List.map_nil List.getElem?_cons_zero List.getElem?_cons_succ List.cons_append List.nil_append List.append_nil List.length_map List.set_cons_zero List.set_cons_succ Nat.reduceMul eq_self Int.toNat_natCast Int.natCast_nonneg and_self true_and and_true decide_true decide_false Bool.false_eq_true Nat.zero_add Nat.add_zero List.contains_cons List.contains_nil Bool.or_false Bool.false_or beq_self_eq_true Nat.reduceBEq ne_eq not_true_eq_false not_false_eq_true Id.mk.injEq false_and and_false Nat.reduceLT Int.reduceLE Int.reduceLT Int.reduceToNat Int.reduceNeg Int.reduceAdd Nat.le_refl List.length_append beq_true beq_false Bool.not_eq_eq_eq_not or_false false_or dO ah aq aI aZ bt ck aS bf aO aY cK bK
theorem Kc {s:au} (hS:ig s) (a d:Int):0<=rT s (di (dj s a) d):=by
 have hF:=hS.form
 have e9:di (dj s a) d=0∨(0<=di (dj s a) d/\di (dj s a) d<=s.ay.length):=by
  unfold di dj
  rw[List.getD_eq_getElem?_getD,List.getD_eq_getElem?_getD]
  rcases ht:s.ai[a.toNat]? with _|t
  ·exact .inl (by simp[yE])
  ·have OX:=List.mem_of_getElem? ht
   simp only[Option.getD_some]
   rcases hg:t.bV[d.toNat]? with _|g
   ·exact .inl rfl
   ·exact .inr (hF.ub t OX g (List.mem_of_getElem? hg))
 unfold rT
 by_cases h0:di (dj s a) d=0
 ·rw[if_pos h0];omega
 ·rw[if_neg h0]
  have hk:(di (dj s a) d-1).toNat<s.ay.length:=by omega
  have:=dW (hS.PW _ hk).2.1
  unfold oI at this
  unfold ph
  omega
theorem tF {s:au} (hS:ig s) (a d b:Int):0<=gF s a d b/\gF s a d b<=4:=by
 refine⟨?_,zB hS a d b⟩
 unfold gF
 split
 ·exact Kc hS a d
 ·omega
def dF (s:au) (f:aB->Int) (p:aB) (t:Int):Nat->Int
 |0=>0
 |d+1=>dF s f p t d+if 0<=f (dm p d)then gF s t d (f (dm p d))else 0
def r8 (s:au) (f:aB->Int) (p:aB) (t:Int):Int:=dF s f p t 4
theorem kN {s:au} (hS:ig s) (f:aB->Int) (p:aB) (t:Int):∀d,0<=dF s f p t d/\dF s f p t d<=4*(d:Int)
 |0=>⟨Int.le_refl _,Int.le_refl _⟩
 |d+1=>by
  have:=kN hS f p t d
  have hb:=tF hS t d (f (dm p d))
  simp only[dF]
  split<;>omega
theorem zx {s:au} {l:List ad} (hA:jn s l) {p:aB} (h:0<=fY l p):eC s (fY l p)=true:=by
 unfold fY at h ⊢
 split at h
 ·rename_i h0
  rw[if_pos h0]
  exact hA.2 _ (gj (kU h0).1)
 ·omega
theorem yp (s:au) (hS:ig s) (l:List ad) (hA:jn s l) (p:aB) (hx:iB p.eS) (hy:iB p.eH) (t:Int) (ht:eC s t=true):aj Tryz.prog 138 [.cI (aa s),.cI [.sl (l.map ab)],.agg (ae p),.int .i64 t] (.int .i64 (r8 s (fY l) p t)):=by
 refine aj.body eI rfl fun hl n0=>?_
 clear hl
 have hR:=hA.1.Ff
 have Ew:l.length<=1048576:=by have:=hA.1.rf;omega
 (try((repeat(revert hN;revert N;apply Pn.out));refine wk @ae.eq_1 ?_;(repeat(refine Pn.mk ?_;intro N hN))))
 refine aQ (fun n env st=>∃k:Nat,n=(4)-k/\k<=(4)/\env 10=.int .i64 (k:Int)/\env 9=.int .i64 (dF s (fY l) p t k)/\st.get ⟨138000000,n0⟩=some ⟨true,2,[ae p]⟩) (4) ⟨0,by omega,by omega,sl @ae.eq_1,sl @ae.eq_1,sl @ae.eq_1⟩ ?_
 rintro n_a env_a st_a ⟨k,rfl,ale,wq,a9,ag0⟩ dY
 have a0:=dY 0 (by kernel_rfl);have a1:=dY 1 (by kernel_rfl);have a3:=dY 3 (by kernel_rfl);have a6:=dY 6 (by kernel_rfl)
 simp only[go_sem, ↓reduceIte,Nat.reduceEqDiff,Nat.reduceAdd,Nat.reduceSub,Nat.reduceLeDiff,reduceCtorEq,ae]at a0 a1 a3 a6
 clear dY
 by_cases hk:(k:Int)<4
 ·have cH:∀{e:Env} {gg:Rows},(e 10=.int .i64 (IntKind.i64.wrap ((k:Int)+1)))->(e 9=.int .i64 (dF s (fY l) p t (k+1)))->(gg ⟨138000000,n0⟩=some ⟨true,2,[ae p]⟩)->∃m0,m0<(4)-k/\∃k:Nat,m0=(4)-k/\k<=(4)/\e 10=.int .i64 (k:Int)/\e 9=.int .i64 (dF s (fY l) p t k)/\gg ⟨138000000,n0⟩=some ⟨true,2,[ae p]⟩:=fun x1 x2 x3=>⟨_,by omega,k+1,rfl,by omega,(by rw[x1,aA (by omega)]),x2,x3⟩
  have dv:=xc p k (kg (by omega)) hx hy
  have Dl:=DD l (dm p k) hR Ew
  have e9:=kN hS (fY l) p t k
  by_cases h0:0<=fY l (dm p k)
  ·have vp:=xd s hS.form t k (fY l (dm p k)) ht (zx hA h0) (kg (by omega))
   have fA:=tF hS t k (fY l (dm p k))
   have hw:IntKind.i64.wrap (dF s (fY l) p t k+gF s t k (fY l (dm p k)))=dF s (fY l) p t (k+1):=by
    rw[bW (by omega),dF,if_pos h0]
   (repeat(first|((repeat(revert hN;revert N;apply Pn.out));refine wk (tw @wq (tw @a9 (tw @ag0 (tw @a0 (tw @a1 (tw @a3 (tw @a6 (tw @hk (tw @h0 @ae.eq_1))))))))) ?_;(repeat(refine Pn.mk ?_;intro N hN)))|((try apply Or.inl);refine⟨_,aj.x (dv) (sd (tw @wq (tw @a9 (tw @ag0 (tw @a0 (tw @a1 (tw @a3 (tw @a6 (tw @hk (tw @h0 @ae.eq_1)))))))))),?_⟩;refine hN _ _ ?_;clear hN N)|((try apply Or.inl);refine⟨_,aj.x (Dl) (sd (tw @wq (tw @a9 (tw @ag0 (tw @a0 (tw @a1 (tw @a3 (tw @a6 (tw @hk (tw @h0 @ae.eq_1)))))))))),?_⟩;refine hN _ _ ?_;clear hN N)|((try apply Or.inl);refine⟨_,aj.x (vp) (sd (tw @wq (tw @a9 (tw @ag0 (tw @a0 (tw @a1 (tw @a3 (tw @a6 (tw @hk (tw @h0 @ae.eq_1)))))))))),?_⟩;refine hN _ _ ?_;clear hN N)))
   refine cH ?_ ?_ ?_
   all_goals simp only[go_sem, ↓reduceIte,Nat.reduceEqDiff,Nat.reduceAdd,Nat.reduceSub,Nat.reduceLeDiff,reduceCtorEq,wq,a9,ag0,a0,a1,a3,a6,hw,ae]
  ·have hw:dF s (fY l) p t (k+1)=dF s (fY l) p t k:=by rw[dF,if_neg h0,Int.add_zero]
   (repeat(first|((repeat(revert hN;revert N;apply Pn.out));refine wk (tw @wq (tw @a9 (tw @ag0 (tw @a0 (tw @a1 (tw @a3 (tw @a6 (tw @hk (tw @h0 @ae.eq_1))))))))) ?_;(repeat(refine Pn.mk ?_;intro N hN)))|((try apply Or.inl);refine⟨_,aj.x (dv) (sd (tw @wq (tw @a9 (tw @ag0 (tw @a0 (tw @a1 (tw @a3 (tw @a6 (tw @hk (tw @h0 @ae.eq_1)))))))))),?_⟩;refine hN _ _ ?_;clear hN N)|((try apply Or.inl);refine⟨_,aj.x (Dl) (sd (tw @wq (tw @a9 (tw @ag0 (tw @a0 (tw @a1 (tw @a3 (tw @a6 (tw @hk (tw @h0 @ae.eq_1)))))))))),?_⟩;refine hN _ _ ?_;clear hN N)))
   refine cH ?_ ?_ ?_
   all_goals simp only[go_sem, ↓reduceIte,Nat.reduceEqDiff,Nat.reduceAdd,Nat.reduceSub,Nat.reduceLeDiff,reduceCtorEq,wq,a9,ag0,a0,a1,a3,a6,hw,ae]
 ·(try((repeat(revert hN;revert N;apply Pn.out));refine wk (tw @wq (tw @a9 (tw @ag0 (tw @a0 (tw @a1 (tw @a3 (tw @a6 @hk))))))) ?_;(repeat(refine Pn.mk ?_;intro N hN))))
  exact bZ (b:=dF s (fY l) p t k) (.inl rfl) (sd (tw @wq (tw @a9 (tw @ag0 (tw @a0 (tw @a1 (tw @a3 @a6))))))) (by rw[show k=4 by omega];rfl)
def j5 (la lb:List ad):Bool:=la.all fun t=>decide (fY lb t.aJ=t.aN)
theorem Ao (la lb:List ad) (hR:mD lb) (Ew:lb.length<=1048576) (h81:la.length<=1048576):aj Tryz.prog 59 [.cI [.sl (la.map ab)],.cI [.sl (lb.map ab)]] (.bool (j5 la lb)):=by
 refine aj.body eI rfl fun hl n0=>?_
 clear hl
 (try((repeat(revert hN;revert N;apply Pn.out));refine wk @Nat.zero_add ?_;(repeat(refine Pn.mk ?_;intro N hN))))
 refine aQ (fun n env st=>∃k:Nat,n=(la.length)-k/\k<=(la.length)/\env 5=.int .i64 (k:Int)/\(∀j:Nat,j<k->fY lb (aE la j).aJ=(aE la j).aN)) (la.length) ⟨0,by omega,by omega,sl @Nat.zero_add,fun _ h=>absurd h (Nat.not_lt_zero _)⟩ ?_
 rintro n_a env_a st_a ⟨k,rfl,ale,a5,lp⟩ dY
 have a0:=dY 0 (by kernel_rfl);have a1:=dY 1 (by kernel_rfl)
 simp only[go_sem, ↓reduceIte,Nat.reduceEqDiff,Nat.reduceAdd,Nat.reduceSub,Nat.reduceLeDiff,reduceCtorEq]at a0 a1
 clear dY
 by_cases hk:(k:Int)<(la.length:Int)
 ·have cH:∀{e:Env},(e 5=.int .i64 (IntKind.i64.wrap ((k:Int)+1)))->(fY lb (aE la k).aJ=(aE la k).aN)->∃m0,m0<(la.length)-k/\∃k:Nat,m0=(la.length)-k/\k<=(la.length)/\e 5=.int .i64 (k:Int)/\(∀j:Nat,j<k->fY lb (aE la j).aJ=(aE la j).aN):=fun x1 x2=>⟨_,by omega,k+1,rfl,by omega,(by rw[x1,aA (by omega)]),(all_succ lp x2)⟩
  have fG:k<la.length:=by omega
  have eJ:=fa fG
  have Dl:=DD lb (aE la k).aJ hR Ew
  by_cases h0:fY lb (aE la k).aJ=(aE la k).aN
  ·have hd:decide (fY lb (aE la k).aJ=(aE la k).aN)=true:=decide_eq_true h0
   (repeat(first|((repeat(revert hN;revert N;apply Pn.out));refine wk (tw @a5 (tw @a0 (tw @a1 (tw @hk (tw @eJ (tw @hd (tw @ab.eq_1 @ae.eq_1))))))) ?_;(repeat(refine Pn.mk ?_;intro N hN)))|((try apply Or.inl);refine⟨_,aj.x (Dl) (sd (tw @a5 (tw @a0 (tw @a1 (tw @hk (tw @eJ (tw @hd (tw @ab.eq_1 @ae.eq_1)))))))),?_⟩;refine hN _ _ ?_;clear hN N)))
   exact cH (sd (tw @a5 (tw @a0 @a1))) (h0)
  ·have hd:decide (fY lb (aE la k).aJ=(aE la k).aN)=false:=decide_eq_false h0
   (repeat(first|((repeat(revert hN;revert N;apply Pn.out));refine wk (tw @a5 (tw @a0 (tw @a1 (tw @hk (tw @eJ (tw @hd (tw @ab.eq_1 @ae.eq_1))))))) ?_;(repeat(refine Pn.mk ?_;intro N hN)))|((try apply Or.inl);refine⟨_,aj.x (Dl) (sd (tw @a5 (tw @a0 (tw @a1 (tw @hk (tw @eJ (tw @hd (tw @ab.eq_1 @ae.eq_1)))))))),?_⟩;refine hN _ _ ?_;clear hN N)))
   exact aM (b:=false) (.inl rfl) (sd @Nat.zero_add) (List.all_eq_false.2 ⟨_,gj fG,by rw[hd];simp⟩).symm
 ·(try((repeat(revert hN;revert N;apply Pn.out));refine wk (tw @a5 (tw @a0 (tw @a1 @hk))) ?_;(repeat(refine Pn.mk ?_;intro N hN))))
  exact aM (b:=true) (.inl rfl) (sd @Nat.zero_add) (List.all_eq_true.2 fun t ht=>by
   obtain⟨j,hj,rfl⟩:=List.getElem_of_mem ht
   have:=lp j (by omega)
   rw[eV hj]at this
   exact decide_eq_true this).symm
noncomputable def qU (s:aC) (l:List ad):Bool:=me s&&oH s.aK l
theorem Ce (s:aC) (l:List ad) (hn:gx s.aK) (hg:s.aK.ay.length<=1048576) (ht:s.aK.ai.length<=1048576):aj Tryz.prog 58 [.cI (ax s),.cI [.sl (l.map ab)]] (.int .i64 (if qU s l then 0 else 1)):=by
 refine aj.body eI rfl fun hl n0=>?_
 clear hl
 have h1:=JM s hn hg ht
 have h2:=(DE s.aK l).cut mixed (.ptr _ [.sl (s.bc.ai.map ab),.int .i64 s.az] (.same _ .nil))
 cases b1:me s
 ·rw[b1]at h1
  (repeat(first|((repeat(revert hN;revert N;apply Pn.out));refine wk @Nat.zero_add ?_;(repeat(refine Pn.mk ?_;intro N hN)))|((try apply Or.inl);refine⟨_,aj.x (h1) (sd @Nat.zero_add),?_⟩;refine hN _ _ ?_;clear hN N)))
  exact bZ (b:=1) (.inl rfl) (sd @Nat.zero_add) (by rw[qU,b1];rfl)
 rw[b1]at h1
 rw[ax]at h1 ⊢
 cases b2:oH s.aK l
 ·rw[b2]at h2
  (repeat(first|((repeat(revert hN;revert N;apply Pn.out));refine wk @aa.eq_1 ?_;(repeat(refine Pn.mk ?_;intro N hN)))|((try apply Or.inl);refine⟨_,aj.x (h1) (sd @aa.eq_1),?_⟩;refine hN _ _ ?_;clear hN N)|((try apply Or.inl);refine⟨_,aj.x (h2) (sd @aa.eq_1),?_⟩;refine hN _ _ ?_;clear hN N)))
  exact bZ (b:=1) (.inl rfl) (sd @Nat.zero_add) (by rw[qU,b1,b2];rfl)
 ·rw[b2]at h2
  (repeat(first|((repeat(revert hN;revert N;apply Pn.out));refine wk @aa.eq_1 ?_;(repeat(refine Pn.mk ?_;intro N hN)))|((try apply Or.inl);refine⟨_,aj.x (h1) (sd @aa.eq_1),?_⟩;refine hN _ _ ?_;clear hN N)|((try apply Or.inl);refine⟨_,aj.x (h2) (sd @aa.eq_1),?_⟩;refine hN _ _ ?_;clear hN N)))
  exact bZ (b:=0) (.inl rfl) (sd @Nat.zero_add) (by rw[qU,b1,b2];rfl)
theorem zu {s:aC} {l:List ad}:qU s l=true↔vH s/\jn s.aK l:=by simp[qU,uY,ly]
theorem Ij {s:au} {k:Nat} (h:k<s.ai.length):eC s k=true:=by
 unfold eC;exact kg (by omega)
theorem Gb {s:au} {l:List ad} (hA:jn s l) (p:aB):fY l p<0↔dZ l p<0:=by
 constructor
 ·intro h
  rcases Int.lt_or_le (dZ l p) 0 with h0|h0
  ·exact h0
  ·exfalso
   obtain⟨h1,_⟩:=kU h0
   have h2:=(dW (hA.2 _ (gj h1))).1
   rw[fY,if_pos h0]at h
   omega
 ·intro h
  rw[fY,if_neg (by omega)];omega
end Go.Proofs.YtgoelphibofcmaaGreat.V

namespace Go.Proofs.YtgoelphibofcmaaGreat.V
open Go.RowKit
attribute [local irreducible] dx wpOps gp Call
attribute [local go_sem] aH fC eG fW fV cF upd cj K.av cJ AV.cells AV.cell rowOf rowsOf part ld rowAt bj bY dz eb gT bE cZ er fS eU dp eh cX cW dR dS bH aW cN bG cQ cP ee ei ef cL bP cY ec bF aL cU cw gS bl cG bI aP dd aU dB AV.undef bw bB dV ea dI dG cE ep ev cq ek ej cR cV List.getD_cons_zero List.getD_cons_succ List.getD_nil List.all_cons List.all_nil Bool.and_true Bool.true_and Bool.and_self Bool.not_true Bool.not_false Option.map_some Option.map_none Option.bind_some Option.bind_none List.length_cons List.length_nil List.take_succ_cons List.take_zero List.take_nil List.drop_succ_cons List.drop_zero List.drop_nil List.head?_cons List.map_cons List.map_nil List.getElem?_cons_zero List.getElem?_cons_succ List.cons_append List.nil_append List.append_nil List.length_map List.set_cons_zero List.set_cons_succ Nat.reduceMul eq_self Int.toNat_natCast Int.natCast_nonneg and_self true_and and_true decide_true decide_false Bool.false_eq_true Nat.zero_add Nat.add_zero List.contains_cons List.contains_nil Bool.or_false Bool.false_or beq_self_eq_true Nat.reduceBEq ne_eq not_true_eq_false not_false_eq_true Id.mk.injEq false_and and_false Nat.reduceLT Int.reduceLE Int.reduceLT Int.reduceToNat Int.reduceNeg Int.reduceAdd Nat.le_refl List.length_append beq_true beq_false Bool.not_eq_eq_eq_not or_false false_or dO ah aq aI aZ bt ck aS bf aO aY cK bK
abbrev mP:MK:=⟨true,[.tI,.tI]⟩
theorem Ax (p:aB):∀(ts:List ad) (i:Nat),fJ mP (ae p) (ts.map ab) i=some (if oM ts p<ts.length then some (i+oM ts p)else none)
 |[],i=>by simp[fJ,oM]
 |t::ts,i=>by
  have e:eU mP.ts (ae p) ((ab t).take mP.ks)=some (decide (p=t.aJ)):=by
   have h:(p=t.aJ)↔(p.eS=t.aJ.eS/\p.eH=t.aJ.eH):=⟨fun h=>by rw[h];exact⟨rfl,rfl⟩,fun h=>Cr h.1 h.2⟩
   simp[MK.ks,ae,ab,eU,fS,h]
  have ih:=Ax p ts (i+1)
  rw[List.map_cons]
  unfold fJ
  rw[e]
  by_cases h:p=t.aJ
  ·rw[decide_eq_true h]
   have h0:oM (t::ts) p=0:=by simp[oM,List.findIdx_cons,h]
   simp[h0]
  ·rw[decide_eq_false h]
   have h0:oM (t::ts) p=oM ts p+1:=by
    simp[oM,List.findIdx_cons,Ne.symm h]
   simp only[ih,h0,List.length_cons,Nat.add_lt_add_iff_right]
   congr 1
   split<;>simp;omega
theorem xh (ts:List ad) (p:aB):fx mP (.agg [.int .i64 p.eS,.int .i64 p.eH]) (ts.map ab)=some (if 0<=dZ ts p then some (dZ ts p).toNat else none):=by
 have h:=Ax p ts 0
 unfold fx
 rw[if_pos ⟨rfl,rfl,rfl⟩]
 show fJ mP (ae p) _ 0= _
 rw[h]
 unfold dZ
 split<;>simp
theorem EY {ts:List ad} {p:aB} (h:0<=dZ ts p):fx mP (.agg [.int .i64 p.eS,.int .i64 p.eH]) (ts.map ab)=some (some (dZ ts p).toNat):=by rw[xh,if_pos h]
theorem pH {ts:List ad} {p:aB} (h:dZ ts p<0):fx mP (.agg [.int .i64 p.eS,.int .i64 p.eH]) (ts.map ab)=some none:=by rw[xh,if_neg (by omega)]
structure A6 (g:Rows) (n:Nat) (c T O:Id) (s:aC) (ts:List ad):Prop where
 row:∃b,g c=some ⟨b,6,[[.sl (s.aK.ay.map cm),.sl (s.aK.ai.map bq),.sl (s.bc.ai.map ab),.int .i64 s.az,.map T mP,.map O mP]]⟩
 tl:∃b,g T=some ⟨b,mP.oq,ts.map ab⟩
 cv:c.bQ<n
 tv:T.bQ<n
 ov:O.bQ<n
theorem A6.ro {g:Rows} {n:Nat} {c T O:Id} {s:aC} {ts:List ad} (h:A6 g n c T O s ts):A6 (V.ro g) n c T O s ts:=by
 obtain⟨b,h1⟩:=h.row
 obtain⟨b2,h2⟩:=h.tl
 exact⟨⟨false,by simp[V.ro,h1]⟩,⟨false,by simp[V.ro,h2]⟩,h.cv,h.tv,h.ov⟩
theorem A6.frame {g g':Rows} {n n':Nat} {c T O:Id} {s:aC} {ts:List ad} (h:A6 g n c T O s ts) (hn:n<=n') (hc:g' c=g c) (hT:g' T=g T):A6 g' n' c T O s ts:=
 ⟨by rw[hc];exact h.row,by rw[hT];exact h.tl,Nat.lt_of_lt_of_le h.cv hn,Nat.lt_of_lt_of_le h.tv hn,Nat.lt_of_lt_of_le h.ov hn⟩
theorem QX {σ:ar} {c T O:Id} {s:aC} {ts:List ad} (h:A6 σ.get σ.next c T O s ts) (p:aB):Call Tryz.prog 121 [.ptr c 0 0,.agg (ae p)] σ (fun r _=>r=.int .i64 (fY ts p)):=by
 refine iF eI rfl fun mN=>?_
 clear mN
 obtain⟨b,h1⟩:=h.row
 obtain⟨b2,h2⟩:=h.tl
 have v1:=dD h.cv
 have v2:=dD h.tv
 by_cases h0:0<=dZ ts p
 ·have hm:=EY h0
  have hg:=fa (kU h0).1
  have ho:(some (dZ ts p).toNat).isSome=true:=rfl
  (try((repeat(revert hN;revert N;apply Pn.out));refine wk (tw @h1 (tw @h2 (tw @v1 (tw @v2 (tw @hm (tw @hg (tw @ho (tw @ae.eq_1 @ab.eq_1)))))))) ?_;(repeat(refine Pn.mk ?_;intro N hN))))
  exact iE (.inl rfl) (vs:=[.int .i64 (aE ts (dZ ts p).toNat).aN]) (sd @Nat.zero_add) (by rw[fY,if_pos h0];rfl)
 ·have hm:=pH (ts:=ts) (p:=p) (by omega)
  have ho:(none:Option Nat).isSome=false:=rfl
  (try((repeat(revert hN;revert N;apply Pn.out));refine wk (tw @h1 (tw @h2 (tw @v1 (tw @v2 (tw @hm (tw @ho @ae.eq_1)))))) ?_;(repeat(refine Pn.mk ?_;intro N hN))))
  exact iE (.inl rfl) (vs:=[.int .i64 (-1)]) (sd @Nat.zero_add) (by rw[fY,if_neg h0];rfl)
theorem Ll {σ:ar} {c T O:Id} {s:aC} {ts:List ad} (h:A6 σ.get σ.next c T O s ts) (p:aB):gp (Call Tryz.prog) 121 [.ptr c 0 0,.agg (ae p)] σ (fun r=>r=.int .i64 (fY ts p)):=by
 unfold gp PC
 exact Or.inl (bp _ _ _ _ _ (fun r σ' hr=>⟨_,by rw[hr];exact aI _ _ _ _,rfl⟩) (QX (σ:=⟨V.ro σ.get,σ.next⟩) h.ro p))
theorem Eb {σ:ar} (s:au) (hS:ig s) (F:aB->Int) (hF:∀q,0<=F q->eC s (F q)=true) (p:aB) (hx:iB p.eS) (hy:iB p.eH) (t:Int) (ht:eC s t=true) (f:Nat) (first:List AV)
  (Dl:∀σ':ar,σ.next<=σ'.next->(∀x:Id,x.bQ<σ.next->σ'.get x=σ.get x)->∀q,gp (Call Tryz.prog) f (first++[.agg (ae q)]) σ' (fun r=>r=.int .i64 (F q))):
  Call Tryz.prog 120 [.agg (aa s),.agg (ae p),.int .i64 t,.sC f first] σ (fun r _=>r=.int .i64 (r8 s F p t)):=by
 refine iF eI rfl fun mN=>?_
 clear mN
 (try((repeat(revert hN;revert N;apply Pn.out));refine wk (tw @ae.eq_1 @aa.eq_1) ?_;(repeat(refine Pn.mk ?_;intro N hN))))
 refine aQ (fun n env st=>∃k:Nat,n=(4)-k/\k<=(4)/\env 12=.int .i64 (k:Int)/\env 9=.int .i64 (dF s F p t k)/\st.get ⟨120000000,σ.next⟩=some ⟨true,2,[aa s]⟩/\st.get ⟨120000001,σ.next⟩=some ⟨true,2,[ae p]⟩/\(σ.next<st.next/\∀x:Id,x.bQ<σ.next->st.get x=σ.get x)) (4) ⟨0,by omega,by omega,sl (tw @ae.eq_1 @aa.eq_1),sl (tw @ae.eq_1 @aa.eq_1),sl (tw @ae.eq_1 @aa.eq_1),sl (tw @ae.eq_1 @aa.eq_1),⟨by(try dsimp only);omega,fun x hx=>by
  have:=dD hx
  simp only[go_sem, ↓reduceIte,Nat.reduceEqDiff,Nat.reduceAdd,Nat.reduceSub,Nat.reduceLeDiff,reduceCtorEq,this]⟩⟩ ?_
 rintro n_a env_a st_a ⟨k,rfl,ale,a12,a9,ag0,ag1,pU⟩ dY
 have a2:=dY 2 (by kernel_rfl);have a3:=dY 3 (by kernel_rfl);have a4:=dY 4 (by kernel_rfl);have a5:=dY 5 (by kernel_rfl)
 simp only[go_sem, ↓reduceIte,Nat.reduceEqDiff,Nat.reduceAdd,Nat.reduceSub,Nat.reduceLeDiff,reduceCtorEq,ae,aa]at a2 a3 a4 a5
 clear dY
 obtain⟨an,dY⟩:=pU
 by_cases hk:(k:Int)<4
 ·have cH:∀{e:Env} {gg:Rows} {nx:Nat},(e 12=.int .i64 (IntKind.i64.wrap ((k:Int)+1)))->(e 9=.int .i64 (dF s F p t (k+1)))->(gg ⟨120000000,σ.next⟩=some ⟨true,2,[aa s]⟩)->(gg ⟨120000001,σ.next⟩=some ⟨true,2,[ae p]⟩)->(σ.next<nx/\∀x:Id,x.bQ<σ.next->gg x=σ.get x)->∃m0,m0<(4)-k/\∃k:Nat,m0=(4)-k/\k<=(4)/\e 12=.int .i64 (k:Int)/\e 9=.int .i64 (dF s F p t k)/\gg ⟨120000000,σ.next⟩=some ⟨true,2,[aa s]⟩/\gg ⟨120000001,σ.next⟩=some ⟨true,2,[ae p]⟩/\(σ.next<nx/\∀x:Id,x.bQ<σ.next->gg x=σ.get x):=fun x1 x2 x3 x4 x5=>⟨_,by omega,k+1,rfl,by omega,(by rw[x1,aA (by omega)]),x2,x3,x4,x5⟩
  have dv:=CH p k (kg (by omega)) hx hy
  have e9:=kN hS F p t k
  (repeat(first|((repeat(revert hN;revert N;apply Pn.out));refine wk (tw @a12 (tw @a9 (tw @ag0 (tw @ag1 (tw @a2 (tw @a3 (tw @a4 (tw @a5 (tw @hk @ae.eq_1))))))))) ?_;(repeat(refine Pn.mk ?_;intro N hN)))|((try apply Or.inl);refine⟨_,aj.x (dv) (sd (tw @a12 (tw @a9 (tw @ag0 (tw @ag1 (tw @a2 (tw @a3 (tw @a4 (tw @a5 (tw @hk @ae.eq_1)))))))))),?_⟩;refine hN _ _ ?_;clear hN N)))
  refine .inl ⟨_,Dl _ (by(try dsimp only);omega) (fun x hx=>sd (dY x hx)) (dm p k),?_⟩
  refine hN _ _ ?_
  clear hN N
  by_cases h0:0<=F (dm p k)
  ·have vp:=Gj s hS.form t k (F (dm p k)) ht (hF _ h0) (kg (by omega))
   have fA:=tF hS t k (F (dm p k))
   have hw:IntKind.i64.wrap (dF s F p t k+gF s t k (F (dm p k)))=dF s F p t (k+1):=by
    rw[bW (by omega),dF,if_pos h0]
   rw[aa]at vp
   (repeat(first|((repeat(revert hN;revert N;apply Pn.out));refine wk (tw @a12 (tw @a9 (tw @ag0 (tw @ag1 (tw @a2 (tw @a3 (tw @a4 (tw @a5 (tw @h0 @aa.eq_1))))))))) ?_;(repeat(refine Pn.mk ?_;intro N hN)))|((try apply Or.inl);refine⟨_,aj.x (vp) (sd (tw @a12 (tw @a9 (tw @ag0 (tw @ag1 (tw @a2 (tw @a3 (tw @a4 (tw @a5 (tw @h0 @aa.eq_1)))))))))),?_⟩;refine hN _ _ ?_;clear hN N)))
   refine cH ?_ ?_ ?_ ?_ (⟨by(try dsimp only);omega,fun x hx=>by
    have h1:=dY x hx
    simp only[go_sem, ↓reduceIte,Nat.reduceEqDiff,Nat.reduceAdd,Nat.reduceSub,Nat.reduceLeDiff,reduceCtorEq,h1]⟩)
   all_goals simp only[go_sem, ↓reduceIte,Nat.reduceEqDiff,Nat.reduceAdd,Nat.reduceSub,Nat.reduceLeDiff,reduceCtorEq,a12,a9,ag0,ag1,a2,a3,a4,a5,hw,ae,aa]
  ·have hw:dF s F p t (k+1)=dF s F p t k:=by rw[dF,if_neg h0,Int.add_zero]
   (try((repeat(revert hN;revert N;apply Pn.out));refine wk (tw @a12 (tw @a9 (tw @ag0 (tw @ag1 (tw @a2 (tw @a3 (tw @a4 (tw @a5 @h0)))))))) ?_;(repeat(refine Pn.mk ?_;intro N hN))))
   refine cH ?_ ?_ ?_ ?_ (⟨by(try dsimp only);omega,fun x hx=>by
    have h1:=dY x hx
    simp only[go_sem, ↓reduceIte,Nat.reduceEqDiff,Nat.reduceAdd,Nat.reduceSub,Nat.reduceLeDiff,reduceCtorEq,h1]⟩)
   all_goals simp only[go_sem, ↓reduceIte,Nat.reduceEqDiff,Nat.reduceAdd,Nat.reduceSub,Nat.reduceLeDiff,reduceCtorEq,a12,a9,ag0,ag1,a2,a3,a4,a5,hw,ae,aa]
 ·(try((repeat(revert hN;revert N;apply Pn.out));refine wk (tw @a12 (tw @a9 (tw @ag0 (tw @ag1 (tw @a2 (tw @a3 (tw @a4 (tw @a5 @hk)))))))) ?_;(repeat(refine Pn.mk ?_;intro N hN))))
  exact iE (.inl rfl) (vs:=[.int .i64 (dF s F p t k)]) (sd (tw @a12 (tw @a9 (tw @ag0 (tw @ag1 (tw @a2 (tw @a3 (tw @a4 @a5)))))))) (by rw[show k=4 by omega];rfl)
end Go.Proofs.YtgoelphibofcmaaGreat.V

namespace Go.Proofs.YtgoelphibofcmaaGreat.V
open Go.RowKit
attribute [local irreducible] dx wpOps gp Call
attribute [local go_sem] aH fC eG fW fV cF upd cj K.av cJ AV.cells AV.cell rowOf rowsOf part ld rowAt bj bY dz eb gT bE cZ er fS eU dp eh cX cW dR dS bH aW cN bG cQ cP ee ei ef cL bP cY ec bF aL cU cw gS bl cG bI aP dd aU dB AV.undef bw bB dV ea dI dG cE ep ev cq ek ej cR cV List.getD_cons_zero List.getD_cons_succ List.getD_nil List.all_cons List.all_nil Bool.and_true Bool.true_and Bool.and_self Bool.not_true Bool.not_false Option.map_some Option.map_none Option.bind_some Option.bind_none List.length_cons List.length_nil List.take_succ_cons List.take_zero List.take_nil List.drop_succ_cons List.drop_zero List.drop_nil List.head?_cons List.map_cons List.map_nil List.getElem?_cons_zero List.getElem?_cons_succ List.cons_append List.nil_append List.append_nil List.length_map List.set_cons_zero List.set_cons_succ Nat.reduceMul eq_self Int.toNat_natCast Int.natCast_nonneg and_self true_and and_true decide_true decide_false Bool.false_eq_true Nat.zero_add Nat.add_zero List.contains_cons List.contains_nil Bool.or_false Bool.false_or beq_self_eq_true Nat.reduceBEq ne_eq not_true_eq_false not_false_eq_true Id.mk.injEq false_and and_false Nat.reduceLT Int.reduceLE Int.reduceLT Int.reduceToNat Int.reduceNeg Int.reduceAdd Nat.le_refl List.length_append beq_true beq_false Bool.not_eq_eq_eq_not or_false false_or dO ah aq aI aZ bt ck aS bf aO aY cK bK
noncomputable def jG (s:aC) (ts:List ad) (p:aB) (t:Int):Bool:=AH p&&decide (fY ts p<0)&&decide (s.az<=r8 s.aK (fY ts) p t)
theorem Ec {σ:ar} {c T O:Id} {s:aC} {ts:List ad} (h:A6 σ.get σ.next c T O s ts) (hS:ig s.aK) (hF:∀q,0<=fY ts q->eC s.aK (fY ts q)=true) (p:aB) (hx:iB p.eS) (hy:iB p.eH) (t:Int) (ht:eC s.aK t=true):
  gp (Call Tryz.prog) 120 [.agg (aa s.aK),.agg (ae p),.int .i64 t,.sC 121 [.ptr c 0 0]] σ (fun r=>r=.int .i64 (r8 s.aK (fY ts) p t)):=by
 unfold gp PC
 exact Or.inl (bp _ _ _ _ _ (fun r σ' hr=>⟨_,by rw[hr];exact aI _ _ _ _,rfl⟩) (Eb (σ:=⟨V.ro σ.get,σ.next⟩) s.aK hS (fY ts) hF p hx hy t ht _ _
  (fun σ' hn hk q=>Ll (h.ro.frame hn (hk _ h.cv) (hk _ h.tv)) q)))
theorem Lz {σ:ar} {c T O:Id} {s:aC} {ts:List ad} (h:A6 σ.get σ.next c T O s ts) (hS:ig s.aK) (hF:∀q,0<=fY ts q->eC s.aK (fY ts q)=true) (p:aB) (t:Int) (ht:eC s.aK t=true):
  Call Tryz.prog 133 [.ptr c 0 0,.agg (ae p),.int .i64 t] σ (fun r _=>r=.bool (jG s ts p t)):=by
 refine iF eI rfl fun mN=>?_
 clear mN
 obtain⟨b,h1⟩:=h.row
 have v1:=dD h.cv
 have hw:=pT p
 have v2:=dD h.tv
 by_cases h0:AH p=true
 ·rw[h0]at hw
  obtain⟨hx,hy⟩:=rN h0
  by_cases h2:fY ts p<0
  ·(repeat(first|((repeat(revert hN;revert N;apply Pn.out));refine wk (tw @h1 (tw @v1 (tw @h2 @ae.eq_1))) ?_;(repeat(refine Pn.mk ?_;intro N hN)))|((try apply Or.inl);refine⟨_,aj.x (hw) (sd (tw @h1 (tw @v1 (tw @h2 @ae.eq_1)))),?_⟩;refine hN _ _ ?_;clear hN N)))
   refine⟨_,Ll (h.frame (by(try dsimp only);omega) (sd @v1) (sd @v2)) p,?_⟩
   refine hN _ _ ?_
   clear hN N
   (repeat(first|((repeat(revert hN;revert N;apply Pn.out));refine wk (tw @h1 (tw @v1 (tw @h2 (tw @ae.eq_1 @aa.eq_1)))) ?_;(repeat(refine Pn.mk ?_;intro N hN)))|((try apply Or.inl);refine⟨_,aj.x (hw) (sd (tw @h1 (tw @v1 (tw @h2 (tw @ae.eq_1 @aa.eq_1))))),?_⟩;refine hN _ _ ?_;clear hN N)))
   refine⟨_,Ec (h.frame (by(try dsimp only);omega) (sd @v1) (sd @v2)) hS hF p hx hy t ht,?_⟩
   refine hN _ _ ?_
   clear hN N
   have hb:=kN hS (fY ts) p t 4
   (repeat(first|((repeat(revert hN;revert N;apply Pn.out));refine wk (tw @h1 (tw @v1 (tw @h2 (tw @ae.eq_1 @aa.eq_1)))) ?_;(repeat(refine Pn.mk ?_;intro N hN)))|((try apply Or.inl);refine⟨_,aj.x (hw) (sd (tw @h1 (tw @v1 (tw @h2 (tw @ae.eq_1 @aa.eq_1))))),?_⟩;refine hN _ _ ?_;clear hN N)))
   exact iE (.inl rfl) (vs:=[.bool (decide (s.az<=r8 s.aK (fY ts) p t))]) (sd @Nat.zero_add) (by rw[show jG s ts p t=decide (s.az<=r8 s.aK (fY ts) p t) by simp[jG,h0,h2]];rfl)
  ·(repeat(first|((repeat(revert hN;revert N;apply Pn.out));refine wk (tw @h1 (tw @v1 (tw @h2 @ae.eq_1))) ?_;(repeat(refine Pn.mk ?_;intro N hN)))|((try apply Or.inl);refine⟨_,aj.x (hw) (sd (tw @h1 (tw @v1 (tw @h2 @ae.eq_1)))),?_⟩;refine hN _ _ ?_;clear hN N)))
   refine⟨_,Ll (h.frame (by(try dsimp only);omega) (sd @v1) (sd @v2)) p,?_⟩
   refine hN _ _ ?_
   clear hN N
   (repeat(first|((repeat(revert hN;revert N;apply Pn.out));refine wk (tw @h1 (tw @v1 (tw @h2 @ae.eq_1))) ?_;(repeat(refine Pn.mk ?_;intro N hN)))|((try apply Or.inl);refine⟨_,aj.x (hw) (sd (tw @h1 (tw @v1 (tw @h2 @ae.eq_1)))),?_⟩;refine hN _ _ ?_;clear hN N)))
   exact iE (.inl rfl) (vs:=[.bool false]) (sd @Nat.zero_add) (by rw[show jG s ts p t=false by simp[jG,h2]];rfl)
 ·rw[Bool.not_eq_true]at h0
  rw[h0]at hw
  (repeat(first|((repeat(revert hN;revert N;apply Pn.out));refine wk (tw @h1 (tw @v1 @ae.eq_1)) ?_;(repeat(refine Pn.mk ?_;intro N hN)))|((try apply Or.inl);refine⟨_,aj.x (hw) (sd (tw @h1 (tw @v1 @ae.eq_1))),?_⟩;refine hN _ _ ?_;clear hN N)))
  exact iE (.inl rfl) (vs:=[.bool false]) (sd @Nat.zero_add) (by rw[show jG s ts p t=false by simp[jG,h0]];rfl)
end Go.Proofs.YtgoelphibofcmaaGreat.V

namespace Go.Proofs.YtgoelphibofcmaaGreat.V
open Go.RowKit
attribute [local irreducible] dx wpOps gp Call
attribute [local go_sem] aH fC eG fW fV cF upd cj K.av cJ AV.cells AV.cell rowOf rowsOf part ld rowAt bj bY dz eb gT bE cZ er fS eU dp eh cX cW dR dS bH aW cN bG cQ cP ee ei ef cL bP cY ec bF aL cU cw gS bl cG bI aP dd aU dB AV.undef bw bB dV ea dI dG cE ep ev cq ek ej cR cV List.getD_cons_zero List.getD_cons_succ List.getD_nil List.all_cons List.all_nil Bool.and_true Bool.true_and Bool.and_self Bool.not_true Bool.not_false Option.map_some Option.map_none Option.bind_some Option.bind_none List.length_cons List.length_nil List.take_succ_cons List.take_zero List.take_nil List.drop_succ_cons List.drop_zero List.drop_nil List.head?_cons List.map_cons List.map_nil List.getElem?_cons_zero List.getElem?_cons_succ List.cons_append List.nil_append List.append_nil List.length_map List.set_cons_zero List.set_cons_succ Nat.reduceMul eq_self Int.toNat_natCast Int.natCast_nonneg and_self true_and and_true decide_true decide_false Bool.false_eq_true Nat.zero_add Nat.add_zero List.contains_cons List.contains_nil Bool.or_false Bool.false_or beq_self_eq_true Nat.reduceBEq ne_eq not_true_eq_false not_false_eq_true Id.mk.injEq false_and and_false Nat.reduceLT Int.reduceLE Int.reduceLT Int.reduceToNat Int.reduceNeg Int.reduceAdd Nat.le_refl List.length_append beq_true beq_false Bool.not_eq_eq_eq_not or_false false_or dO ah aq aI aZ bt ck aS bf aO aY cK bK
def OW (rows:List (List AV)):Prop:=∀r∈rows,∃(x y:Int) (v:AV),r=[.int .i64 x,.int .i64 y,v]
theorem DJ (x y:Int):∀(rows:List (List AV)) (i:Nat),OW rows->∃fi,fJ mP [.int .i64 x,.int .i64 y] rows i=some fi
 |[],i,_=>⟨none,by simp[fJ]⟩
 |r::rs,i,h=>by
  obtain⟨fi,hf⟩:=DJ x y rs (i+1) fun r hr=>h r (by simp[hr])
  obtain⟨x',y',v,rfl⟩:=h r (by simp)
  unfold fJ
  have e:eU mP.ts [.int .i64 x,.int .i64 y] (([.int .i64 x',.int .i64 y',v]:List AV).take mP.ks)=some (decide (x=x')&&decide (y=y')):=by
   simp[MK.ks,eU,fS]
  rw[e]
  cases decide (x=x')&&decide (y=y')
  ·exact⟨fi,hf⟩
  ·exact⟨some i,rfl⟩
theorem AF {rows:List (List AV)} (h:OW rows) (x y:Int):∃fi,fx mP (.agg [.int .i64 x,.int .i64 y]) rows=some fi:=by
 unfold fx
 rw[if_pos ⟨rfl,rfl,rfl⟩]
 exact DJ x y rows 0 h
theorem Mz {rows:List (List AV)} (h:OW rows) (x y:Int) (v:AV) (fi:Option Nat):OW (dI rows [.int .i64 x,.int .i64 y,v] fi):=by
 intro r hr
 cases fi with
 |none=>
  rcases List.mem_append.1 (show r∈rows++[_]from hr)with h1|h1
  ·exact h r h1
  ·simp at h1;exact⟨x,y,v,h1⟩
 |some i=>
  rcases List.mem_or_eq_of_mem_set (show r∈rows.set i _ from hr)with h1|h1
  ·exact h r h1
  ·exact⟨x,y,v,h1⟩
theorem HG {rows:List (List AV)} (h:OW rows) (fi:Option Nat):OW (dG rows fi):=by
 intro r hr
 cases fi with
 |none=>exact h r (by simpa[dG]using hr)
 |some i=>exact h r (List.mem_of_mem_eraseIdx (by simpa[dG]using hr))
def im (σ:ar) (O:Id) (g:Rows) (n:Nat):Prop:=σ.next<=n/\(∀x:Id,x.bQ<σ.next->x≠O->g x=σ.get x)/\∃rows,g O=some ⟨true,mP.oq,rows⟩/\OW rows
theorem im.vn {σ:ar} {g:Rows} {n:Nat} {c T O:Id} {s:aC} {ts:List ad} (h:A6 σ.get σ.next c T O s ts) (hc:c≠O) (hT:T≠O) (k:im σ O g n):A6 g n c T O s ts:=
 h.frame k.1 (k.2.1 _ h.cv hc) (k.2.1 _ h.tv hT)
theorem im.trans {a b:ar} {O:Id} {g:Rows} {n:Nat} (h:im a O b.get b.next) (k:im b O g n):im a O g n:=
 ⟨Nat.le_trans h.1 k.1,fun x hx hO=>(k.2.1 x (Nat.lt_of_lt_of_le hx h.1) hO).trans (h.2.1 x hx hO),k.2.2⟩
theorem im.frame {a:ar} {O:Id} {g g':Rows} {n n' m:Nat} (h:im a O g n) (ha:a.next<=m) (ho:O.bQ<m) (hn:n<=n') (hf:∀x:Id,x.bQ<m->g' x=g x):im a O g' n':=by
 refine⟨Nat.le_trans h.1 hn,fun x hx hO=>(hf x (Nat.lt_of_lt_of_le hx ha)).trans (h.2.1 x hx hO),?_⟩
 obtain⟨rows,h1,h2⟩:=h.2.2
 exact⟨rows,(hf O ho).trans h1,h2⟩
theorem im.write {a:ar} {O:Id} {g g':Rows} {n n':Nat} (h:im a O g n) (hn:n<=n') (hf:∀x:Id,x.bQ<a.next->x≠O->g' x=g x) {rows:List (List AV)} (ho:g' O=some ⟨true,mP.oq,rows⟩) (hw:OW rows):im a O g' n':=
 ⟨Nat.le_trans h.1 hn,fun x hx hO=>(hf x hx hO).trans (h.2.1 x hx hO),rows,ho,hw⟩
theorem GA {σ:ar} {c T O:Id} {s:aC} {ts:List ad} (h:A6 σ.get σ.next c T O s ts) (hS:ig s.aK) (hF:∀q,0<=fY ts q->eC s.aK (fY ts q)=true) (p:aB) (t:Int) (ht:eC s.aK t=true):
  gp (Call Tryz.prog) 133 [.ptr c 0 0,.agg (ae p),.int .i64 t] σ (fun r=>r=.bool (jG s ts p t)):=by
 unfold gp PC
 exact Or.inl (bp _ _ _ _ _ (fun r σ' hr=>⟨_,by rw[hr];exact aZ _ _ _,rfl⟩) (Lz (σ:=⟨V.ro σ.get,σ.next⟩) h.ro hS hF p t ht))
theorem ql {σ:ar} {c T O:Id} {s:aC} {ts:List ad} (h:A6 σ.get σ.next c T O s ts) (hc:c≠O) (hT:T≠O) (hO:∃rows,σ.get O=some ⟨true,mP.oq,rows⟩/\OW rows) (hS:ig s.aK) (hF:∀q,0<=fY ts q->eC s.aK (fY ts q)=true) (p:aB) (hx:iB p.eS) (hy:iB p.eH):
  Call Tryz.prog 127 [.ptr c 0 0,.agg (ae p)] σ (fun r σ'=>r=.gn []/\im σ O σ'.get σ'.next):=by
 refine iF eI rfl fun mN=>?_
 clear mN
 have Mj:=hS.Ik
 have h0:im σ O σ.get σ.next:=⟨Nat.le_refl _,fun _ _ _=>rfl,hO⟩
 (try((repeat(revert hN;revert N;apply Pn.out));refine wk @ae.eq_1 ?_;(repeat(refine Pn.mk ?_;intro N hN))))
 refine aQ (fun n env st=>∃k:Nat,n=(4)-k/\k<=(4)/\env 8=.int .i64 (k:Int)/\st.get ⟨127000000,σ.next⟩=some ⟨true,2,[ae p]⟩/\(σ.next<st.next/\im σ O st.get st.next)) (4) ⟨0,by omega,by omega,sl @ae.eq_1,sl @ae.eq_1,⟨by(try dsimp only);omega,h0.frame (Nat.le_refl _) h.ov (by(try dsimp only);omega) fun x hx=>by
  have:=dD hx
  simp only[go_sem, ↓reduceIte,Nat.reduceEqDiff,Nat.reduceAdd,Nat.reduceSub,Nat.reduceLeDiff,reduceCtorEq,this]⟩⟩ ?_
 rintro n_a env_a st_a ⟨k,rfl,ale,a8,ag0,pU⟩ dY
 have a0:=dY 0 (by kernel_rfl);have a3:=dY 3 (by kernel_rfl)
 simp only[go_sem, ↓reduceIte,Nat.reduceEqDiff,Nat.reduceAdd,Nat.reduceSub,Nat.reduceLeDiff,reduceCtorEq,ae]at a0 a3
 clear dY
 obtain⟨an,ak⟩:=pU
 have ha:=ak.vn h hc hT
 by_cases hk:(k:Int)<4
 ·have cH:∀{e:Env} {gg:Rows} {nx:Nat},(e 8=.int .i64 (IntKind.i64.wrap ((k:Int)+1)))->(gg ⟨127000000,σ.next⟩=some ⟨true,2,[ae p]⟩)->(σ.next<nx/\im σ O gg nx)->∃m0,m0<(4)-k/\∃k:Nat,m0=(4)-k/\k<=(4)/\e 8=.int .i64 (k:Int)/\gg ⟨127000000,σ.next⟩=some ⟨true,2,[ae p]⟩/\(σ.next<nx/\im σ O gg nx):=fun x1 x2 x3=>⟨_,by omega,k+1,rfl,by omega,(by rw[x1,aA (by omega)]),x2,x3⟩
  have dv:=CH p k (kg (by omega)) hx hy
  obtain⟨b,h1⟩:=ha.row
  have v1:=dD ha.cv
  (repeat(first|((repeat(revert hN;revert N;apply Pn.out));refine wk (tw @a8 (tw @ag0 (tw @a0 (tw @a3 (tw @hk (tw @h1 (tw @v1 @ae.eq_1))))))) ?_;(repeat(refine Pn.mk ?_;intro N hN)))|((try apply Or.inl);refine⟨_,aj.x (dv) (sd (tw @a8 (tw @ag0 (tw @a0 (tw @a3 (tw @hk (tw @h1 (tw @v1 @ae.eq_1)))))))),?_⟩;refine hN _ _ ?_;clear hN N)))
  refine aQ (fun n env st=>∃t:Nat,n=(s.aK.ai.length)-t/\t<=(s.aK.ai.length)/\env 21=.int .i64 (t:Int)/\st.get ⟨127000000,σ.next⟩=some ⟨true,2,[ae p]⟩/\st.get ⟨127004003,st_a.next+1+1⟩=some ⟨true,2,[ae (dm p k)]⟩/\(st_a.next+3<=st.next/\im σ O st.get st.next/\(env 6=.b4∨∃(o:Id) (n:Nat) (rows:List (List AV)),env 6=.own o 0 n/\st.get o=some ⟨true,1,rows⟩/\rows.length=n/\0<n/\n<=t/\st_a.next+3<=o.bQ/\o.bQ<st.next))) (s.aK.ai.length) ⟨0,by omega,by omega,sl (tw @a8 (tw @ag0 (tw @a0 (tw @a3 @ae.eq_1)))),sl (tw @a8 (tw @ag0 (tw @a0 (tw @a3 @ae.eq_1)))),sl (tw @a8 (tw @ag0 (tw @a0 (tw @a3 @ae.eq_1)))),⟨by(try dsimp only);omega,ak.frame ak.1 ha.ov (by(try dsimp only);omega) fun x hx=>(by
   have:=dD hx
   simp only[go_sem, ↓reduceIte,Nat.reduceEqDiff,Nat.reduceAdd,Nat.reduceSub,Nat.reduceLeDiff,reduceCtorEq,this]),.inl (sd @Nat.zero_add)⟩⟩ ?_
  rintro n_b env_b st_b ⟨t,rfl,ble,b21,bg0,bg1,bI0⟩ fE
  have b0:=fE 0 (by kernel_rfl);have b3:=fE 3 (by kernel_rfl);have b5:=fE 5 (by kernel_rfl);have b8:=fE 8 (by kernel_rfl);have FH:=fE 20 (by kernel_rfl)
  simp only[go_sem, ↓reduceIte,Nat.reduceEqDiff,Nat.reduceAdd,Nat.reduceSub,Nat.reduceLeDiff,reduceCtorEq,a8,ag0,a0,a3,ae]at b0 b3 b5 b8 FH
  clear fE
  obtain⟨bn,bk,b6⟩:=bI0
  have LX:=bk.vn h hc hT
  obtain⟨b2,h2⟩:=LX.row
  have v2:=dD LX.cv
  have vt:=dD (i:=⟨127000000,σ.next⟩) (n:=st_b.next) (by(try dsimp only);omega)
  have vq:=dD (i:=⟨127004003,st_a.next+1+1⟩) (n:=st_b.next) (by(try dsimp only);omega)
  by_cases ht:(t:Int)<(s.aK.ai.length:Int)
  ·have fK:∀{e:Env} {gg:Rows} {nx:Nat},(e 21=.int .i64 (IntKind.i64.wrap ((t:Int)+1)))->(gg ⟨127000000,σ.next⟩=some ⟨true,2,[ae p]⟩)->(gg ⟨127004003,st_a.next+1+1⟩=some ⟨true,2,[ae (dm p k)]⟩)->(st_a.next+3<=nx/\im σ O gg nx/\(e 6=.b4∨∃(o:Id) (n:Nat) (rows:List (List AV)),e 6=.own o 0 n/\gg o=some ⟨true,1,rows⟩/\rows.length=n/\0<n/\n<=(t+1)/\st_a.next+3<=o.bQ/\o.bQ<nx))->∃m0,m0<(s.aK.ai.length)-t/\∃t:Nat,m0=(s.aK.ai.length)-t/\t<=(s.aK.ai.length)/\e 21=.int .i64 (t:Int)/\gg ⟨127000000,σ.next⟩=some ⟨true,2,[ae p]⟩/\gg ⟨127004003,st_a.next+1+1⟩=some ⟨true,2,[ae (dm p k)]⟩/\(st_a.next+3<=nx/\im σ O gg nx/\(e 6=.b4∨∃(o:Id) (n:Nat) (rows:List (List AV)),e 6=.own o 0 n/\gg o=some ⟨true,1,rows⟩/\rows.length=n/\0<n/\n<=t/\st_a.next+3<=o.bQ/\o.bQ<nx)):=fun x1 x2 x3 x4=>⟨_,by omega,t+1,rfl,by omega,(by rw[x1,aA (by omega)]),x2,x3,x4⟩
   have OY:t<s.aK.ai.length:=by omega
   (try((repeat(revert hN;revert N;apply Pn.out));refine wk (tw @b21 (tw @bg0 (tw @bg1 (tw @b0 (tw @b3 (tw @b5 (tw @b8 (tw @FH (tw @ht (tw @h2 (tw @v2 (tw @vt (tw @vq @ae.eq_1))))))))))))) ?_;(repeat(refine Pn.mk ?_;intro N hN))))
   refine .inl ⟨_,GA (LX.frame (by(try dsimp only);omega) (sd @v2) (by(have:=dD LX.tv);simp only[go_sem, ↓reduceIte,Nat.reduceEqDiff,Nat.reduceAdd,Nat.reduceSub,Nat.reduceLeDiff,reduceCtorEq,this])) hS hF (dm p k) t (Ij OY),?_⟩
   refine hN _ _ ?_
   clear hN N
   have js:∀x:Id,x.bQ<st_b.next->x≠⟨127010002,st_b.next+1+1+1⟩:=fun x hx h=>by rw[h]at hx;(try dsimp only at hx);omega
   cases hb:jG s ts (dm p k) t
   ·(try((repeat(revert hN;revert N;apply Pn.out));refine wk (tw @b21 (tw @bg0 (tw @bg1 (tw @b0 (tw @b3 (tw @b5 (tw @b8 (tw @FH @hb)))))))) ?_;(repeat(refine Pn.mk ?_;intro N hN))))
    refine fK ?_ ?_ ?_ (by(try dsimp only);exact⟨by omega,bk.frame bk.1 LX.ov (by omega) (fun x hx=>by
      have h1:=dD (i:=x) (n:=st_b.next) (by omega)
      simp only[go_sem, ↓reduceIte,Nat.reduceEqDiff,Nat.reduceAdd,Nat.reduceSub,Nat.reduceLeDiff,reduceCtorEq,h1]),by
     rcases b6 with h|⟨o,n,rows,h1,h2,h3,h4,h5,h6,h7⟩
     ·exact .inl (sd @h)
     ·have h8:=dD h7
      exact .inr ⟨o,n,rows,sd @h1,sd (tw @h2 @h8),h3,h4,by omega,h6,by omega⟩⟩)
    all_goals simp only[go_sem, ↓reduceIte,Nat.reduceEqDiff,Nat.reduceAdd,Nat.reduceSub,Nat.reduceLeDiff,reduceCtorEq,b21,bg0,bg1,b0,b3,b5,b8,FH,ae,vt,vq]
   ·rcases b6 with b6|⟨o,n,rows,b6,bo,o3,o4,o5,o6,o7⟩
    ·(try((repeat(revert hN;revert N;apply Pn.out));refine wk (tw @b21 (tw @bg0 (tw @bg1 (tw @b0 (tw @b3 (tw @b5 (tw @b8 (tw @FH (tw @b6 @hb))))))))) ?_;(repeat(refine Pn.mk ?_;intro N hN))))
     refine fK ?_ ?_ ?_ (by(try dsimp only);exact⟨by omega,bk.frame (m:=st_a.next) ak.1 ha.ov (by omega) (fun x hx=>by
      have h1:=dD (i:=x) (n:=st_b.next) (by omega)
      simp only[go_sem, ↓reduceIte,Nat.reduceEqDiff,Nat.reduceAdd,Nat.reduceSub,Nat.reduceLeDiff,reduceCtorEq,h1]),.inr ⟨⟨127010003,st_b.next+1+1+1⟩,1,[[.int .i64 t]],sl @Nat.zero_add,sd @Nat.zero_add,rfl,by omega,by omega,by(try dsimp only);omega,by(try dsimp only);omega⟩⟩)
     all_goals simp only[go_sem, ↓reduceIte,Nat.reduceEqDiff,Nat.reduceAdd,Nat.reduceSub,Nat.reduceLeDiff,reduceCtorEq,b21,bg0,bg1,b0,b3,b5,b8,FH,ae,vt,vq]
    ·subst o3
     have e1:rows.length<=16777215:=by omega
     have vo:=dD o7
     have vto:=cr (a:=⟨127000000,σ.next⟩) (b:=o) (by(try dsimp only);omega)
     have vqo:=cr (a:=⟨127004003,st_a.next+1+1⟩) (b:=o) (by(try dsimp only);omega)
     (try((repeat(revert hN;revert N;apply Pn.out));refine wk (tw @b21 (tw @bg0 (tw @bg1 (tw @b0 (tw @b3 (tw @b5 (tw @b8 (tw @FH (tw @b6 (tw @bo (tw @hb (tw @e1 @vo)))))))))))) ?_;(repeat(refine Pn.mk ?_;intro N hN))))
     refine fK ?_ ?_ ?_ (by(try dsimp only);exact⟨by omega,bk.frame (m:=st_a.next) ak.1 ha.ov (by omega) (fun x hx=>by
      have h1:=dD (i:=x) (n:=st_b.next) (by omega)
      have h2:=cr (a:=x) (b:=o) (by omega)
      simp only[go_sem, ↓reduceIte,Nat.reduceEqDiff,Nat.reduceAdd,Nat.reduceSub,Nat.reduceLeDiff,reduceCtorEq,h1,h2]),.inr ⟨⟨127010003,st_b.next+1+1+1⟩,rows.length+1,rows++[[.int .i64 t]],sl @Nat.zero_add,sd @Nat.zero_add,by simp,by omega,by omega,by(try dsimp only);omega,by(try dsimp only);omega⟩⟩)
     all_goals simp only[go_sem, ↓reduceIte,Nat.reduceEqDiff,Nat.reduceAdd,Nat.reduceSub,Nat.reduceLeDiff,reduceCtorEq,b21,bg0,bg1,b0,b3,b5,b8,FH,ae,vt,vq,vto,vqo]
  ·obtain⟨rows,hg,Sb⟩:=bk.2.2
   have vo:=dD LX.ov
   obtain⟨fi,EA⟩:=AF Sb (dm p k).eS (dm p k).eH
   have hq:((⟨127000000,σ.next⟩:Id)=O)=False:=(cr (a:=O) (b:=⟨127000000,σ.next⟩) (by have:=h.ov;(try dsimp only);omega)).2
   rcases b6 with b6|⟨o,n,rows2,b6,bo,o3,o4,o5,o6,o7⟩
   ·have d0:decide ((0:Int)<((0:Nat):Int))=false:=rfl
    (try((repeat(revert hN;revert N;apply Pn.out));refine wk (tw @b21 (tw @bg0 (tw @bg1 (tw @b0 (tw @b3 (tw @b5 (tw @b8 (tw @FH (tw @b6 (tw @ht (tw @h2 (tw @v2 (tw @vt (tw @vq (tw @vo (tw @hg (tw @EA (tw @ae.eq_1 @d0)))))))))))))))))) ?_;(repeat(refine Pn.mk ?_;intro N hN))))
    refine cH ?_ ?_ (by(try dsimp only);exact⟨by omega,bk.write (by omega) (fun x hx KS=>by
     have h1:=dD (i:=x) (n:=st_b.next) (by omega)
     have h2:(x=O)=False:=eq_false KS
     simp only[go_sem, ↓reduceIte,Nat.reduceEqDiff,Nat.reduceAdd,Nat.reduceSub,Nat.reduceLeDiff,reduceCtorEq,h1,h2]) (sl @Nat.zero_add) (HG Sb _)⟩)
    all_goals simp only[go_sem, ↓reduceIte,Nat.reduceEqDiff,Nat.reduceAdd,Nat.reduceSub,Nat.reduceLeDiff,reduceCtorEq,a8,ag0,a0,a3,b21,bg0,bg1,b0,b3,b5,b8,FH,ae,vt,vo,hq]
   ·have d1:decide ((0:Int)<(n:Int))=true:=decide_eq_true (by omega)
    (try((repeat(revert hN;revert N;apply Pn.out));refine wk (tw @b21 (tw @bg0 (tw @bg1 (tw @b0 (tw @b3 (tw @b5 (tw @b8 (tw @FH (tw @b6 (tw @ht (tw @h2 (tw @v2 (tw @vt (tw @vq (tw @vo (tw @hg (tw @EA (tw @ae.eq_1 @d1)))))))))))))))))) ?_;(repeat(refine Pn.mk ?_;intro N hN))))
    refine cH ?_ ?_ (by(try dsimp only);exact⟨by omega,bk.write (by omega) (fun x hx KS=>by
     have h1:=dD (i:=x) (n:=st_b.next) (by omega)
     have h2:(x=O)=False:=eq_false KS
     simp only[go_sem, ↓reduceIte,Nat.reduceEqDiff,Nat.reduceAdd,Nat.reduceSub,Nat.reduceLeDiff,reduceCtorEq,h1,h2]) (sl @Nat.zero_add) (Mz Sb _ _ _ _)⟩)
    all_goals simp only[go_sem, ↓reduceIte,Nat.reduceEqDiff,Nat.reduceAdd,Nat.reduceSub,Nat.reduceLeDiff,reduceCtorEq,a8,ag0,a0,a3,b21,bg0,bg1,b0,b3,b5,b8,FH,ae,vt,vo,hq]
 ·(try((repeat(revert hN;revert N;apply Pn.out));refine wk (tw @a8 (tw @ag0 (tw @a0 (tw @a3 @hk)))) ?_;(repeat(refine Pn.mk ?_;intro N hN))))
  exact iE (.inr rfl) (vs:=[]) rfl ⟨rfl,ak.frame ak.1 ha.ov (by(try dsimp only);omega) (fun x hx=>rfl)⟩
end Go.Proofs.YtgoelphibofcmaaGreat.V

namespace Go.Proofs.YtgoelphibofcmaaGreat.V
open Go.RowKit
attribute [local irreducible] dx wpOps gp Call
attribute [local go_sem] aH fC eG fW fV cF upd cj K.av cJ AV.cells AV.cell rowOf rowsOf part ld rowAt bj bY dz eb gT bE cZ er fS eU dp eh cX cW dR dS bH aW cN bG cQ cP ee ei ef cL bP cY ec bF aL cU cw gS bl cG bI aP dd aU dB AV.undef bw bB dV ea dI dG cE ep ev cq ek ej cR cV List.getD_cons_zero List.getD_cons_succ List.getD_nil List.all_cons List.all_nil Bool.and_true Bool.true_and Bool.and_self Bool.not_true Bool.not_false Option.map_some Option.map_none Option.bind_some Option.bind_none List.length_cons List.length_nil List.take_succ_cons List.take_zero List.take_nil List.drop_succ_cons List.drop_zero List.drop_nil List.head?_cons List.map_cons List.map_nil List.getElem?_cons_zero List.getElem?_cons_succ List.cons_append List.nil_append List.append_nil List.length_map List.set_cons_zero List.set_cons_succ Nat.reduceMul eq_self Int.toNat_natCast Int.natCast_nonneg and_self true_and and_true decide_true decide_false Bool.false_eq_true Nat.zero_add Nat.add_zero List.contains_cons List.contains_nil Bool.or_false Bool.false_or beq_self_eq_true Nat.reduceBEq ne_eq not_true_eq_false not_false_eq_true Id.mk.injEq false_and and_false Nat.reduceLT Int.reduceLE Int.reduceLT Int.reduceToNat Int.reduceNeg Int.reduceAdd Nat.le_refl List.length_append beq_true beq_false Bool.not_eq_eq_eq_not or_false false_or dO ah aq aI aZ bt ck aS bf aO aY cK bK
structure k9 (g:Rows) (n:Nat) (c T O:Id) (s:aC) (ts:List ad):Prop where
 row:g c=some ⟨true,6,[[.sl (s.aK.ay.map cm),.sl (s.aK.ai.map bq),.sl (s.bc.ai.map ab),.int .i64 s.az,.map T mP,.map O mP]]⟩
 tl:g T=some ⟨true,mP.oq,ts.map ab⟩
 op:∃rows,g O=some ⟨true,mP.oq,rows⟩/\OW rows
 cv:c.bQ<n
 tv:T.bQ<n
 ov:O.bQ<n
 cT:c≠T
 cO:c≠O
 TO:T≠O
theorem k9.vn {g:Rows} {n:Nat} {c T O:Id} {s:aC} {ts:List ad} (h:k9 g n c T O s ts):A6 g n c T O s ts:=⟨⟨_,h.row⟩,⟨_,h.tl⟩,h.cv,h.tv,h.ov⟩
theorem k9.look {σ:ar} {g:Rows} {n:Nat} {c T O:Id} {s:aC} {ts:List ad} (h:k9 σ.get σ.next c T O s ts) (k:im σ O g n):k9 g n c T O s ts:=
 ⟨(k.2.1 _ h.cv h.cO).trans h.row,(k.2.1 _ h.tv h.TO).trans h.tl,k.2.2,Nat.lt_of_lt_of_le h.cv k.1,Nat.lt_of_lt_of_le h.tv k.1,Nat.lt_of_lt_of_le h.ov k.1,h.cT,h.cO,h.TO⟩
theorem k9.frame {g g':Rows} {n n':Nat} {c T O:Id} {s:aC} {ts:List ad} (h:k9 g n c T O s ts) (hn:n<=n') (hf:∀x:Id,x.bQ<n->g' x=g x):k9 g' n' c T O s ts:=
 ⟨(hf _ h.cv).trans h.row,(hf _ h.tv).trans h.tl,by rw[hf _ h.ov];exact h.op,Nat.lt_of_lt_of_le h.cv hn,Nat.lt_of_lt_of_le h.tv hn,Nat.lt_of_lt_of_le h.ov hn,h.cT,h.cO,h.TO⟩
def QS (σ:ar) (s:aC) (ts:List ad) (r:AV) (σ':ar):Prop:=
 ∃c T O:Id,r=.ptr c 0 0/\k9 σ'.get σ'.next c T O s ts/\σ.next<=c.bQ/\σ.next<=T.bQ/\σ.next<=O.bQ/\σ.next<=σ'.next/\∀x:Id,x.bQ<σ.next->σ'.get x=σ.get x
theorem Ah {l:List ad} {p:aB}:dZ l p<0↔∀t∈l,t.aJ≠p:=by
 unfold dZ oM
 by_cases h:(l.findIdx fun c=>decide (c.aJ=p))<l.length
 ·rw[if_pos h]
  obtain⟨t,ht,h2⟩:=List.findIdx_lt_length.1 h
  exact⟨fun h=>by omega,fun h=>absurd (by simpa using h2) (h t ht)⟩
 ·rw[if_neg h]
  exact⟨fun _ t ht e=>h (List.findIdx_lt_length.2 ⟨t,ht,by simp[e]⟩),fun _=>by omega⟩
theorem Ih {l:List ad} (h:mD l) {k:Nat} (hk:k<l.length):dZ (l.take k) (aE l k).aJ<0:=by
 rw[Ah]
 intro t ht e
 obtain⟨j,hj,rfl⟩:=List.getElem_of_mem ht
 have IK:j<k:=by rw[List.length_take]at hj;omega
 have:=h j k IK hk
 rw[List.getElem_take]at e
 have e2:aE l j=l[j]'(by omega):=by unfold aE;rw[List.getD_eq_getElem?_getD,List.getElem?_eq_getElem (by omega)];rfl
 rw[e2,e]at this
 simp[jl]at this
theorem Ke {l:List ad} {k:Nat} (hk:k<l.length):(l.take k).map ab++[[.int .i64 (aE l k).aJ.eS,.int .i64 (aE l k).aJ.eH,.int .i64 (aE l k).aN]]=(l.take (k+1)).map ab:=by
 have e2:aE l k=l[k]:=by unfold aE;rw[List.getD_eq_getElem?_getD,List.getElem?_eq_getElem hk];rfl
 rw[List.take_succ_eq_append_getElem hk,List.map_append,e2]
 rfl
theorem ig.Kt {s:au} {l:List ad} (hA:jn s l):∀q,0<=fY l q->eC s (fY l q)=true:=fun _ h=>zx hA h
theorem yD (s:aC) (hS:ig s.aK) (l:List ad) (hA:jn s.aK l) (σ:ar):Call Tryz.prog 73 [.agg (ax s),.agg [.sl (l.map ab)]] σ (QS σ s l):=by
 refine iF eI rfl fun mN=>?_
 clear mN
 have GQ:=hA.1.rf
 (try((repeat(revert hN;revert N;apply Pn.out));refine wk @ax.eq_1 ?_;(repeat(refine Pn.mk ?_;intro N hN))))
 refine aQ (fun n env st=>∃k:Nat,n=(l.length)-k/\k<=(l.length)/\env 18=.int .i64 (k:Int)/\st.get ⟨73001004,σ.next+1⟩=some ⟨true,6,[[.sl (s.aK.ay.map cm),.sl (s.aK.ai.map bq),.sl (s.bc.ai.map ab),.int .i64 s.az,.map ⟨73001001,σ.next+1⟩ mP,.map ⟨73001002,σ.next+1⟩ mP]]⟩/\st.get ⟨73001001,σ.next+1⟩=some ⟨true,mP.oq,(l.take k).map ab⟩/\st.get ⟨73001002,σ.next+1⟩=some ⟨true,mP.oq,[]⟩/\st.get ⟨73000001,σ.next⟩=some ⟨true,1,[[.sl (l.map ab)]]⟩/\(σ.next+3<=st.next/\∀x:Id,x.bQ<σ.next->st.get x=σ.get x)) (l.length) ⟨0,by omega,by omega,sl @Nat.zero_add,sl @Nat.zero_add,sl @Nat.zero_add,sl @Nat.zero_add,sl @Nat.zero_add,⟨by(try dsimp only);omega,fun x hx=>by
  have:=dD hx
  simp only[go_sem, ↓reduceIte,Nat.reduceEqDiff,Nat.reduceAdd,Nat.reduceSub,Nat.reduceLeDiff,reduceCtorEq,this]⟩⟩ ?_
 rintro n_a env_a st_a ⟨k,rfl,ale,a18,ag0,ag1,ag2,ag3,pU⟩ dY
 have a3:=dY 3 (by kernel_rfl);have a5:=dY 5 (by kernel_rfl);have Nl:=dY 16 (by kernel_rfl);have a17:=dY 17 (by kernel_rfl)
 simp only[go_sem, ↓reduceIte,Nat.reduceEqDiff,Nat.reduceAdd,Nat.reduceSub,Nat.reduceLeDiff,reduceCtorEq]at a3 a5 Nl a17
 clear dY
 obtain⟨an,dY⟩:=pU
 have v1:=dD (i:=⟨73001004,σ.next+1⟩) (n:=st_a.next) (by(try dsimp only);omega)
 have v2:=dD (i:=⟨73001001,σ.next+1⟩) (n:=st_a.next) (by(try dsimp only);omega)
 have v3:=dD (i:=⟨73001002,σ.next+1⟩) (n:=st_a.next) (by(try dsimp only);omega)
 have v4:=dD (i:=⟨73000001,σ.next⟩) (n:=st_a.next) (by(try dsimp only);omega)
 by_cases hk:(k:Int)<(l.length:Int)
 ·have cH:∀{e:Env} {gg:Rows} {nx:Nat},(e 18=.int .i64 (IntKind.i64.wrap ((k:Int)+1)))->(gg ⟨73001004,σ.next+1⟩=some ⟨true,6,[[.sl (s.aK.ay.map cm),.sl (s.aK.ai.map bq),.sl (s.bc.ai.map ab),.int .i64 s.az,.map ⟨73001001,σ.next+1⟩ mP,.map ⟨73001002,σ.next+1⟩ mP]]⟩)->(gg ⟨73001001,σ.next+1⟩=some ⟨true,mP.oq,(l.take (k+1)).map ab⟩)->(gg ⟨73001002,σ.next+1⟩=some ⟨true,mP.oq,[]⟩)->(gg ⟨73000001,σ.next⟩=some ⟨true,1,[[.sl (l.map ab)]]⟩)->(σ.next+3<=nx/\∀x:Id,x.bQ<σ.next->gg x=σ.get x)->∃m0,m0<(l.length)-k/\∃k:Nat,m0=(l.length)-k/\k<=(l.length)/\e 18=.int .i64 (k:Int)/\gg ⟨73001004,σ.next+1⟩=some ⟨true,6,[[.sl (s.aK.ay.map cm),.sl (s.aK.ai.map bq),.sl (s.bc.ai.map ab),.int .i64 s.az,.map ⟨73001001,σ.next+1⟩ mP,.map ⟨73001002,σ.next+1⟩ mP]]⟩/\gg ⟨73001001,σ.next+1⟩=some ⟨true,mP.oq,(l.take k).map ab⟩/\gg ⟨73001002,σ.next+1⟩=some ⟨true,mP.oq,[]⟩/\gg ⟨73000001,σ.next⟩=some ⟨true,1,[[.sl (l.map ab)]]⟩/\(σ.next+3<=nx/\∀x:Id,x.bQ<σ.next->gg x=σ.get x):=fun x1 x2 x3 x4 x5 x6=>⟨_,by omega,k+1,rfl,by omega,(by rw[x1,aA (by omega)]),x2,x3,x4,x5,x6⟩
  have fG:k<l.length:=by omega
  have hg:=fa fG
  have hm:=pH (Ih hA.1.Ff fG)
  have pr:=Ke fG
  (try((repeat(revert hN;revert N;apply Pn.out));refine wk (tw @a18 (tw @ag0 (tw @ag1 (tw @ag2 (tw @ag3 (tw @a3 (tw @a5 (tw @Nl (tw @a17 (tw @hk (tw @hg (tw @hm (tw @v1 (tw @v2 (tw @v3 (tw @v4 @ab.eq_1)))))))))))))))) ?_;(repeat(refine Pn.mk ?_;intro N hN))))
  refine cH ?_ ?_ ?_ ?_ ?_ (by(try dsimp only);exact⟨by omega,fun x hx=>by
   have h1:=dD (i:=x) (n:=st_a.next) (by omega)
   have h2:=cr (a:=x) (b:=⟨73001001,σ.next+1⟩) (by(try dsimp only);omega)
   have h3:=dY x hx
   simp only[go_sem, ↓reduceIte,Nat.reduceEqDiff,Nat.reduceAdd,Nat.reduceSub,Nat.reduceLeDiff,reduceCtorEq,h1,h2,h3]⟩)
  all_goals simp only[go_sem, ↓reduceIte,Nat.reduceEqDiff,Nat.reduceAdd,Nat.reduceSub,Nat.reduceLeDiff,reduceCtorEq,a18,ag0,ag1,ag2,ag3,a3,a5,Nl,a17,ab,v1,v2,v3,v4,pr]
 ·have lq:k=l.length:=by omega
  subst lq
  have mQ:l.take l.length=l:=List.take_length
  (try((repeat(revert hN;revert N;apply Pn.out));refine wk (tw @a18 (tw @ag0 (tw @ag1 (tw @ag2 (tw @ag3 (tw @a3 (tw @a5 (tw @Nl (tw @a17 (tw @hk (tw @v1 (tw @v2 (tw @v3 @v4))))))))))))) ?_;(repeat(refine Pn.mk ?_;intro N hN))))
  refine aQ (fun n env st=>∃j:Nat,n=(l.length)-j/\j<=(l.length)/\env 34=.int .i64 (j:Int)/\(σ.next+3<=st.next/\k9 st.get st.next ⟨73001004,σ.next+1⟩ ⟨73001001,σ.next+1⟩ ⟨73001002,σ.next+1⟩ s l/\∀x:Id,x.bQ<σ.next->st.get x=σ.get x)) (l.length) ⟨0,by omega,by omega,sl (tw @a18 (tw @ag0 (tw @ag1 (tw @ag2 (tw @ag3 (tw @a3 (tw @a5 (tw @Nl @a17)))))))),by(try dsimp only);exact⟨by omega,⟨sd @ag0,sd (tw @ag1 @mQ),⟨[],sd @ag2,by intro r hr;cases hr⟩,by(try dsimp only);omega,by(try dsimp only);omega,by(try dsimp only);omega,(by intro e;injection e with e1 e2;revert e1;decide),(by intro e;injection e with e1 e2;revert e1;decide),(by intro e;injection e with e1 e2;revert e1;decide)⟩,fun x hx=>by
   have h3:=dY x hx
   simp only[go_sem, ↓reduceIte,Nat.reduceEqDiff,Nat.reduceAdd,Nat.reduceSub,Nat.reduceLeDiff,reduceCtorEq,h3]⟩⟩ ?_
  rintro n_b env_b st_b ⟨j,rfl,ble,b34,bI0⟩ fE
  have b5:=fE 5 (by kernel_rfl);have r7:=fE 32 (by kernel_rfl);have sL:=fE 33 (by kernel_rfl)
  simp only[go_sem, ↓reduceIte,Nat.reduceEqDiff,Nat.reduceAdd,Nat.reduceSub,Nat.reduceLeDiff,reduceCtorEq,a18,ag0,ag1,ag2,ag3,a3,a5,Nl,a17]at b5 r7 sL
  clear fE
  obtain⟨bn,bC,fE⟩:=bI0
  by_cases hj:(j:Int)<(l.length:Int)
  ·have fK:∀{e:Env} {gg:Rows} {nx:Nat},(e 34=.int .i64 (IntKind.i64.wrap ((j:Int)+1)))->(σ.next+3<=nx/\k9 gg nx ⟨73001004,σ.next+1⟩ ⟨73001001,σ.next+1⟩ ⟨73001002,σ.next+1⟩ s l/\∀x:Id,x.bQ<σ.next->gg x=σ.get x)->∃m0,m0<(l.length)-j/\∃j:Nat,m0=(l.length)-j/\j<=(l.length)/\e 34=.int .i64 (j:Int)/\(σ.next+3<=nx/\k9 gg nx ⟨73001004,σ.next+1⟩ ⟨73001001,σ.next+1⟩ ⟨73001002,σ.next+1⟩ s l/\∀x:Id,x.bQ<σ.next->gg x=σ.get x):=fun x1 x2=>⟨_,by omega,j+1,rfl,by omega,(by rw[x1,aA (by omega)]),x2⟩
   have mW:j<l.length:=by omega
   have hg:=fa mW
   have OO:=rN (hA.1.pt mW)
   (try((repeat(revert hN;revert N;apply Pn.out));refine wk (tw @b34 (tw @b5 (tw @r7 (tw @sL (tw @hj (tw @hg @ab.eq_1)))))) ?_;(repeat(refine Pn.mk ?_;intro N hN))))
   have N9:k9 (bj (bj st_b.get ⟨73009002,st_b.next+1⟩ ⟨true,3,[[.int .i64 0,.int .i64 0,.int .i64 0]]⟩) ⟨73009002,st_b.next+1⟩ ⟨true,3,[[.int .i64 (aE l j).aJ.eS,.int .i64 (aE l j).aJ.eH,.int .i64 (aE l j).aN]]⟩) (st_b.next+1+1+1) ⟨73001004,σ.next+1⟩ ⟨73001001,σ.next+1⟩ ⟨73001002,σ.next+1⟩ s l:=bC.frame (by omega) fun x hx=>by
    have h1:=dD hx
    simp only[go_sem, ↓reduceIte,Nat.reduceEqDiff,Nat.reduceAdd,Nat.reduceSub,Nat.reduceLeDiff,reduceCtorEq,h1]
   refine .inr (bp _ _ _ _ _ (fun r σ1 hq=>?_) (ql (σ:=⟨bj (bj st_b.get ⟨73009002,st_b.next+1⟩ ⟨true,3,[[.int .i64 0,.int .i64 0,.int .i64 0]]⟩) ⟨73009002,st_b.next+1⟩ ⟨true,3,[[.int .i64 (aE l j).aJ.eS,.int .i64 (aE l j).aJ.eH,.int .i64 (aE l j).aN]]⟩,st_b.next+1+1+1⟩) N9.vn N9.cO N9.TO N9.op hS (ig.Kt hA) (aE l j).aJ OO.1 OO.2))
   obtain⟨g1,x1⟩:=σ1
   obtain⟨rfl,hL⟩:=hq
   (try dsimp only at hL)
   have GH:=N9.look hL
   have P3:=hL.1
   have hLf:=hL.2.1
   (try dsimp only at P3 hLf)
   refine hN _ _ ?_
   clear hN N
   (try((repeat(revert hN;revert N;apply Pn.out));refine wk (tw @b34 (tw @b5 (tw @r7 @sL))) ?_;(repeat(refine Pn.mk ?_;intro N hN))))
   exact fK (sd (tw @b34 (tw @b5 (tw @r7 @sL)))) (by(try dsimp only);exact⟨by omega,GH.frame (by omega) (fun x hx=>rfl),fun x hx=>by
    have h1:=dD (i:=x) (n:=st_b.next) (by omega)
    have h2:=hLf x (by omega) (fun e=>by rw[e]at hx;(try dsimp only at hx);omega)
    have h3:=fE x hx
    simp only[h2]
    simp only[go_sem, ↓reduceIte,Nat.reduceEqDiff,Nat.reduceAdd,Nat.reduceSub,Nat.reduceLeDiff,reduceCtorEq,h1,h3]⟩)
  ·(try((repeat(revert hN;revert N;apply Pn.out));refine wk (tw @b34 (tw @b5 (tw @r7 (tw @sL @hj)))) ?_;(repeat(refine Pn.mk ?_;intro N hN))))
   exact iE (.inl rfl) (vs:=[.ptr ⟨73001004,σ.next+1⟩ 0 0]) (sd @Nat.zero_add) ⟨_,_,_,rfl,bC.frame (by(try dsimp only);omega) (fun x hx=>rfl),by(try dsimp only);omega,by(try dsimp only);omega,by(try dsimp only);omega,by(try dsimp only);omega,fE⟩
end Go.Proofs.YtgoelphibofcmaaGreat.V

namespace Go.Proofs.YtgoelphibofcmaaGreat.V
open Go.RowKit
def gY:List ad->ad->List ad
 |[],q=>[q]
 |x::r,q=>if jl q.aJ x.aJ=true then q::x::r else x::gY r q
theorem nK {q x:ad}:∀{l:List ad},x∈gY l q↔x=q∨x∈l
 |[]=>by simp[gY]
 |y::r=>by
  have ih:=@nK q x r
  rw[gY]
  split
  ·simp
  ·simp only[List.mem_cons,ih]
   constructor
   ·rintro(h|h|h)<;>simp[h]
   ·rintro(h|h|h)<;>simp[h]
theorem nQ (q:ad):∀l:List ad,(gY l q).length=l.length+1
 |[]=>rfl
 |y::r=>by
  have ih:=nQ q r
  rw[gY]
  split
  ·simp
  ·simp[ih]
theorem qw {l:List ad}:mD l↔l.Pairwise fun a b=>jl a.aJ b.aJ=true:=by
 rw[List.pairwise_iff_getElem]
 constructor
 ·intro h i j hi hj BZ
  have:=h i j BZ hj
  rwa [eV hi,eV hj]at this
 ·intro h i j BZ hj
  have:=h i j (by omega) hj BZ
  rwa [eV (by omega),eV hj]
theorem kV {l:List ad} {p:aB}:dZ l p<0↔∀t∈l,t.aJ≠p:=Ah
theorem HL {q:ad}:∀{l:List ad},mD l->dZ l q.aJ<0->mD (gY l q):=by
 intro l
 rw[qw,qw,kV]
 induction l with
 |nil=>intro _ _;exact List.pairwise_singleton _ _
 |cons y r ih=>
  intro h hn
  obtain⟨h1,h2⟩:=List.pairwise_cons.1 h
  rw[gY]
  split
  ·rename_i hl
   refine List.pairwise_cons.2 ⟨fun x hx=>?_,h⟩
   rcases List.mem_cons.1 hx with rfl|hx
   ·exact hl
   ·exact jv hl (h1 x hx)
  ·rename_i hl
   rw[Bool.not_eq_true]at hl
   refine List.pairwise_cons.2 ⟨fun x hx=>?_,ih h2 fun t ht=>hn t (by simp[ht])⟩
   rcases nK.1 hx with rfl|hx
   ·exact DH hl fun e=>hn y (by simp) e.symm
   ·exact h1 x hx
theorem jt (x:ad) (r:List ad) (p:aB):fY (x::r) p=if x.aJ=p then x.aN else fY r p:=by
 unfold fY dZ oM
 rw[List.findIdx_cons]
 by_cases h:x.aJ=p
 ·simp[h,aE]
 ·simp only[h,decide_false,cond_false,List.length_cons,Nat.add_lt_add_iff_right,if_false]
  by_cases hl:(r.findIdx fun c=>decide (c.aJ=p))<r.length
  ·rw[if_pos hl,if_pos hl,if_pos (by omega),if_pos (by omega)]
   simp[aE]
  ·rw[if_neg hl,if_neg hl];rfl
theorem zw {q:ad} (p:aB):∀{l:List ad},(∀t∈l,t.aJ≠q.aJ)->fY (gY l q) p=if q.aJ=p then q.aN else fY l p
 |[],_=>by rw[gY,jt]
 |x::r,h=>by
  have ih:=@zw q p r fun t ht=>h t (by simp[ht])
  rw[gY]
  split
  ·rw[jt]
  ·rw[jt,ih,jt]
   by_cases h1:x.aJ=p
   ·have h2:q.aJ≠p:=fun e=>h x (by simp) (h1.trans e.symm)
    rw[if_pos h1,if_neg h2,if_pos h1]
   ·rw[if_neg h1,if_neg h1]
theorem xP {q:ad} (p:aB):∀{l:List ad},(∀t∈l,t.aJ≠q.aJ)->fY (l++[q]) p=if q.aJ=p then q.aN else fY l p
 |[],_=>by rw[List.nil_append,jt]
 |x::r,h=>by
  have ih:=@xP q p r fun t ht=>h t (by simp[ht])
  rw[List.cons_append,jt,ih,jt]
  by_cases h1:x.aJ=p
  ·have h2:q.aJ≠p:=fun e=>h x (by simp) (h1.trans e.symm)
   rw[if_pos h1,if_neg h2,if_pos h1]
  ·rw[if_neg h1,if_neg h1]
theorem xk {α:Type} [DecidableEq α]:∀{xs ys:List α},xs.Nodup->(∀x∈xs,x∈ys)->xs.length<=ys.length
 |[],_,_,_=>Nat.zero_le _
 |x::xs,ys,hn,h=>by
  obtain⟨h1,h2⟩:=List.nodup_cons.1 hn
  have hx:=h x (by simp)
  have:=@xk α _ xs (ys.erase x) h2 fun y hy=>(List.mem_erase_of_ne fun e=>h1 (by rw[<-e];exact hy)).2 (h y (by simp[hy]))
  rw[List.length_erase_of_mem hx]at this
  have:=List.length_pos_of_mem hx
  rw[List.length_cons];omega
theorem Fg {l:List ad} (h:mD l):l.Nodup:=by
 rw[qw]at h
 refine List.Pairwise.imp (fun {a b} po e=>?_) h
 rw[e,l6]at po;cases po
abbrev iL:=List ad×List ad
noncomputable def iZ (s:aC) (st:iL) (x:ad):iL:=if jG s st.2 x.aJ x.aN=true then(st.1++[x],gY st.2 x)else st
noncomputable def ga (s:aC) (l:List ad) (st:iL):iL:=l.foldl (iZ s) st
noncomputable def ym (s:aC) (l:List ad):Nat->iL->iL
 |0,st=>st
 |n+1,st=>if (ga s l st).1.length=st.1.length then ga s l st else ym s l n (ga s l st)
noncomputable def jZ (s:aC) (l:List ad):iL:=ym s l (l.length+1) ([],s.bc.ai)
def nE (l now:List ad):Nat:=(l.filter fun x=>decide (dZ now x.aJ<0)).length
theorem filter_lt {α:Type} {p q:α->Bool} (hpq:∀x,q x=true->p x=true) {x:α} (hp:p x=true) (hq:q x=false):∀{l:List α},x∈l->(l.filter q).length<(l.filter p).length:=by
 have le:∀l:List α,(l.filter q).length<=(l.filter p).length:=fun l=>by
  induction l with
  |nil=>exact Nat.le_refl _
  |cons y r ih=>
   rw[List.filter_cons,List.filter_cons]
   cases h1:q y
   ·cases h2:p y<;>simp<;>omega
   ·rw[hpq y h1];simp;omega
 intro l hl
 induction l with
 |nil=>cases hl
 |cons y r ih=>
  rcases List.mem_cons.1 hl with rfl|hl
  ·have:=le r
   rw[List.filter_cons,List.filter_cons,hp,hq];simp;omega
  ·have:=ih hl
   rw[List.filter_cons,List.filter_cons]
   cases h1:q y
   ·cases h2:p y<;>simp<;>omega
   ·rw[hpq y h1];simp;omega
structure pO (s:aC) (l:List ad) (st:iL):Prop where
 Ff:mD st.2
 sub:∀x∈st.2,x∈l
 done:∀x∈st.1,x∈l
 len:st.2.length=s.bc.ai.length+st.1.length
theorem pO.rf {s:aC} {l:List ad} {st:iL} (h:pO s l st):st.2.length<=l.length:=by
 classical
 exact xk (Fg h.Ff) h.sub
theorem pO.asm {s:aC} {l:List ad} {st:iL} (h:pO s l st) (hA:jn s.aK l):jn s.aK st.2:=by
 refine⟨⟨Nat.le_trans h.rf hA.1.rf,fun i hi=>?_⟩,fun t ht=>hA.2 t (h.sub t ht)⟩
 obtain⟨j,hj,gM⟩:=List.getElem_of_mem (h.sub _ (gj hi))
 have h1:=hA.1.ok j hj
 rw[C2,eV hj,gM]at h1
 exact⟨h1.1,h1.2.1,fun h0=>h.Ff _ _ (by omega) hi⟩
theorem nC {s:aC} {l:List ad} (hA:jn s.aK l) {now:List ad} (hs:∀x∈now,x∈l) {p:aB} {t:Int} (h:jG s now p t=true):dZ now p<0:=by
 rcases Int.lt_or_le (dZ now p) 0 with h0|h0
 ·exact h0
 ·exfalso
  obtain⟨h1,_⟩:=kU h0
  have h2:=(dW (hA.2 _ (hs _ (gj h1)))).1
  simp[jG,fY,h0]at h
  omega
theorem pO.step {s:aC} {l:List ad} {st:iL} (h:pO s l st) (hA:jn s.aK l) {x:ad} (hx:x∈l):pO s l (iZ s st x):=by
 unfold iZ
 split
 ·rename_i hf
  have h0:=nC hA h.sub hf
  exact⟨HL h.Ff h0,fun y hy=>by rcases nK.1 hy with rfl|hy;exact hx;exact h.sub y hy,fun y hy=>by
   rcases List.mem_append.1 hy with hy|hy
   ·exact h.done y hy
   ·rw[List.mem_singleton.1 hy];exact hx,by rw[nQ,List.length_append,List.length_singleton,h.len];omega⟩
 ·exact h
theorem Es {s:aC} {l:List ad} {st:iL} (h:pO s l st) (hA:jn s.aK l) {x:ad} (hx:x∈l):nE l (iZ s st x).2+(iZ s st x).1.length<=nE l st.2+st.1.length:=by
 unfold iZ
 split
 ·rename_i hf
  have h0:=nC hA h.sub hf
  have:nE l (gY st.2 x)<nE l st.2:=filter_lt (x:=x) (fun y hy=>by
   simp only[decide_eq_true_eq,kV]at hy ⊢
   exact fun t ht=>hy t (nK.2 (.inr ht))) (by simpa using h0) (by
   simp only[decide_eq_false_iff_not,kV]
   exact fun h=>h x (nK.2 (.inl rfl)) rfl) hx
  simp only[List.length_append,List.length_singleton]
  omega
 ·exact Nat.le_refl _
noncomputable def fw (s:aC) (l:List ad) (st:iL) (i:Nat):iL:=(l.take i).foldl (iZ s) st
theorem pA (s:aC) (l:List ad) (st:iL) {i:Nat} (hi:i<l.length):fw s l st (i+1)=iZ s (fw s l st i) (aE l i):=by
 unfold fw
 rw[List.take_succ_eq_append_getElem hi,List.foldl_append,eV hi];rfl
theorem rH (s:aC) (l:List ad) (st:iL):fw s l st l.length=ga s l st:=by rw[fw,List.take_length];rfl
theorem yW {s:aC} {l:List ad} {st:iL} (h:pO s l st) (hA:jn s.aK l):∀i,i<=l.length->pO s l (fw s l st i)/\nE l (fw s l st i).2+(fw s l st i).1.length<=nE l st.2+st.1.length/\st.1.length<=(fw s l st i).1.length
 |0,_=>by simp[fw];exact h
 |i+1,hi=>by
  obtain⟨h1,h2,h3⟩:=yW h hA i (by omega)
  rw[pA s l st hi]
  refine⟨h1.step hA (gj hi),Nat.le_trans (Es h1 hA (gj hi)) h2,Nat.le_trans h3 ?_⟩
  unfold iZ
  split
  ·simp
  ·exact Nat.le_refl _
theorem Di (l now:List ad):nE l now<=l.length:=List.length_filter_le _ _
theorem w8 {s:aC} {l:List ad} (hP:vH s) (hA:jn s.aK l) (hW:j5 s.bc.ai l=true):pO s l ([],s.bc.ai):=by
 refine⟨hP.yL.1.Ff,fun x hx=>?_,fun x hx=>by(cases hx),rfl⟩
 unfold j5 at hW
 rw[List.all_eq_true]at hW
 have h1:=of_decide_eq_true (hW x hx)
 have h2:=(dW (hP.yL.2 x hx)).1
 have h0:0<=dZ l x.aJ:=by
  rcases Int.lt_or_le (dZ l x.aJ) 0 with h0|h0
  ·rw[fY,if_neg (by omega)]at h1;omega
  ·exact h0
 obtain⟨h3,h4⟩:=kU h0
 rw[fY,if_pos h0]at h1
 have:x=aE l (dZ l x.aJ).toNat:=by
  cases th:aE l (dZ l x.aJ).toNat with
  |mk a t=>rw[th]at h1 h4;cases x;simp_all
 rw[this];exact gj h3
theorem w7 {s:aC} {l:List ad} {st:iL} (h:pO s l st) (hA:jn s.aK l) {n:Nat} (hn:nE l st.2<n):
  ((ga s l st).1.length=st.1.length->ym s l n st=ga s l st)/\
  ((ga s l st).1.length≠st.1.length->∃m,n=m+1/\ym s l n st=ym s l m (ga s l st)/\nE l (ga s l st).2<m):=by
 obtain⟨m,rfl⟩:∃m,n=m+1:=⟨n-1,by omega⟩
 obtain⟨h1,h2,h3⟩:=yW h hA l.length (Nat.le_refl _)
 rw[rH]at h1 h2 h3
 refine⟨fun e=>by rw[ym,if_pos e],fun e=>⟨m,rfl,by rw[ym,if_neg e],by omega⟩⟩
end Go.Proofs.YtgoelphibofcmaaGreat.V

namespace Go.Proofs.YtgoelphibofcmaaGreat.V
open Go.RowKit
attribute [local irreducible] dx wpOps gp Call
attribute [local go_sem] aH fC eG fW fV cF upd cj K.av cJ AV.cells AV.cell rowOf rowsOf part ld rowAt bj bY dz eb gT bE cZ er fS eU dp eh cX cW dR dS bH aW cN bG cQ cP ee ei ef cL bP cY ec bF aL cU cw gS bl cG bI aP dd aU dB AV.undef bw bB dV ea dI dG cE ep ev cq ek ej cR cV List.getD_cons_zero List.getD_cons_succ List.getD_nil List.all_cons List.all_nil Bool.and_true Bool.true_and Bool.and_self Bool.not_true Bool.not_false Option.map_some Option.map_none Option.bind_some Option.bind_none List.length_cons List.length_nil List.take_succ_cons List.take_zero List.take_nil List.drop_succ_cons List.drop_zero List.drop_nil List.head?_cons List.map_cons List.map_nil List.getElem?_cons_zero List.getElem?_cons_succ List.cons_append List.nil_append List.append_nil List.length_map List.set_cons_zero List.set_cons_succ Nat.reduceMul eq_self Int.toNat_natCast Int.natCast_nonneg and_self true_and and_true decide_true decide_false Bool.false_eq_true Nat.zero_add Nat.add_zero List.contains_cons List.contains_nil Bool.or_false Bool.false_or beq_self_eq_true Nat.reduceBEq ne_eq not_true_eq_false not_false_eq_true Id.mk.injEq false_and and_false Nat.reduceLT Int.reduceLE Int.reduceLT Int.reduceToNat Int.reduceNeg Int.reduceAdd Nat.le_refl List.length_append beq_true beq_false Bool.not_eq_eq_eq_not or_false false_or dO ah aq aI aZ bt ck aS bf aO aY cK bK
variable {P:Program}
def ni {α:Type} (R:FG α) (z:Nat) (g:Rows) (a:AV) (xs:List α) (ids:List Id):Prop:=∃o rows is,a=.own o 0 xs.length/\g o=some ⟨true,z,rows⟩/\eL R g rows xs is/\ids=o::is
theorem ni.frame {α:Type} {R:FG α} {z:Nat} {g g':Rows} {a:AV} {xs:List α} {ids:List Id} (ok:xI R z) (h:ni R z g a xs ids) (hf:∀i∈ids,g' i=g i):ni R z g' a xs ids:=by
 obtain⟨o,rows,is,h1,h2,h3,rfl⟩:=h
 exact⟨o,rows,is,h1,(hf o (by simp)).trans h2,h3.frame ok fun i hi=>hf i (by simp[hi]),rfl⟩
theorem ni.fz {α:Type} {R:FG α} {z n:Nat} {e:α->List AV} {g:Rows} {a:AV} {xs:List α} {ids:List Id} (h:ni R z g a xs ids) (hz:∀{cs x ids},R g cs x ids->da (dO g) n cs=some (e x)):V.fz (dO g) (n+1) a=some (.sl (xs.map e)):=by
 obtain⟨o,rows,is,rfl,h2,h3,rfl⟩:=h
 rw[gW]
 simp only[dO,h2,Option.map_some,if_true]
 rw[if_pos (by rw[h3.len];omega),List.drop_zero,List.take_of_length_le (by rw[h3.len];exact Nat.le_refl _),h3.fz hz];rfl
def r4 {α:Type} (e:α->List AV):FG α:=fun _ cs x ids=>cs=e x/\ids=[]
theorem GB {α:Type} {e:α->List AV} {z:Nat} (hz:∀x,(e x).length=z) (hc:∀x,(e x).all AV.cell=true) (hs:z<qp):xI (r4 e) z where
 frame:=fun h _=>h
 len:=fun h=>by rw[h.1];exact hz _
 cell:=fun h=>by rw[h.1];exact hc _
 live:=fun h i hi=>by rw[h.2]at hi;cases hi
 small:=hs
def F8:FG e5:=fun g cs t ids=>∃i,cs=[.str t.aD,.own i 0 t.bV.length]/\g i=some ⟨true,1,t.bV.map br⟩/\ids=[i]
theorem MR:xI F8 2 where
 frame:=fun⟨i,h1,h2,h3⟩ hf=>⟨i,h1,(hf i (by rw[h3];simp)).trans h2,h3⟩
 len:=fun⟨i,h1,_⟩=>by rw[h1];rfl
 cell:=fun⟨i,h1,_⟩=>by rw[h1];rfl
 live:=fun⟨i,h1,h2,h3⟩ j hj=>by
  rw[h3]at hj
  have:j=i:=by simpa using hj
  subst this
  exact⟨_,h2,rfl,by simp[qp]⟩
 small:=by simp[qp]
theorem Kf {g:Rows} {cs:List AV} {t:e5} {ids:List Id} (n:Nat) (h:F8 g cs t ids):da (dO g) (n+2) cs=some (bq t):=by
 obtain⟨i,rfl,h2,_⟩:=h
 have h3:V.fz (dO g) (n+2) (.own i 0 t.bV.length)=some (.sl (t.bV.map br)):=gz (e:=br) (sz:=1) (by simp[dO,h2]) rfl fun x=>by simp[br,ah,aq,aI]
 simp only[ah,aq,bt,h3,Option.map_some,bq]
end Go.Proofs.YtgoelphibofcmaaGreat.V

namespace Go.Proofs.YtgoelphibofcmaaGreat.V
open Go.RowKit
attribute [local irreducible] dx wpOps gp Call
attribute [local go_sem] aH fC eG fW fV cF upd cj K.av cJ AV.cells AV.cell rowOf rowsOf part ld rowAt bj bY dz eb gT bE cZ er fS eU dp eh cX cW dR dS bH aW cN bG cQ cP ee ei ef cL bP cY ec bF aL cU cw gS bl cG bI aP dd aU dB AV.undef bw bB dV ea dI dG cE ep ev cq ek ej cR cV List.getD_cons_zero List.getD_cons_succ List.getD_nil List.all_cons List.all_nil Bool.and_true Bool.true_and Bool.and_self Bool.not_true Bool.not_false Option.map_some Option.map_none Option.bind_some Option.bind_none List.length_cons List.length_nil List.take_succ_cons List.take_zero List.take_nil List.drop_succ_cons List.drop_zero List.drop_nil List.head?_cons List.map_cons List.map_nil List.getElem?_cons_zero List.getElem?_cons_succ List.cons_append List.nil_append List.append_nil List.length_map List.set_cons_zero List.set_cons_succ Nat.reduceMul eq_self Int.toNat_natCast Int.natCast_nonneg and_self true_and and_true decide_true decide_false Bool.false_eq_true Nat.zero_add Nat.add_zero List.contains_cons List.contains_nil Bool.or_false Bool.false_or beq_self_eq_true Nat.reduceBEq ne_eq not_true_eq_false not_false_eq_true Id.mk.injEq false_and and_false Nat.reduceLT Int.reduceLE Int.reduceLT Int.reduceToNat Int.reduceNeg Int.reduceAdd Nat.le_refl List.length_append beq_true beq_false Bool.not_eq_eq_eq_not or_false false_or dO ah aq aI aZ bt ck aS bf aO aY cK bK
theorem N7:xI (r4 cm) 2:=GB (fun _=>rfl) (fun _=>rfl) (by simp[qp])
theorem Kx:xI (r4 ab) 3:=GB (fun _=>rfl) (fun _=>rfl) (by simp[qp])
def FT (g:Rows) (v:AV) (a:eK) (ids:List Id):Prop:=∃x,v=.agg [x]/\ni (r4 ab) 3 g x a.ai ids
structure F7 (g:Rows) (v:AV) (s:aC) (ids:List Id):Prop where
 ex:∃a b c i1 i2 i3,v=.agg [a,b,c,.int .i64 s.az]/\ni (r4 cm) 2 g a s.aK.ay i1/\ni F8 2 g b s.aK.ai i2/\ni (r4 ab) 3 g c s.bc.ai i3/\ids=i1++(i2++i3)
theorem FT.frame {g g':Rows} {v:AV} {a:eK} {ids:List Id} (h:FT g v a ids) (hf:∀i∈ids,g' i=g i):FT g' v a ids:=by
 obtain⟨x,h1,h2⟩:=h
 exact⟨x,h1,h2.frame Kx hf⟩
theorem F7.frame {g g':Rows} {v:AV} {s:aC} {ids:List Id} (h:F7 g v s ids) (hf:∀i∈ids,g' i=g i):F7 g' v s ids:=by
 obtain⟨a,b,c,i1,i2,i3,h1,h2,h3,h4,rfl⟩:=h.ex
 exact⟨a,b,c,i1,i2,i3,h1,h2.frame N7 fun i hi=>hf i (by simp[hi]),h3.frame MR fun i hi=>hf i (by simp[hi]),h4.frame Kx fun i hi=>hf i (by simp[hi]),rfl⟩
theorem FT.fz {g:Rows} {v:AV} {a:eK} {ids:List Id} (n:Nat) (h:FT g v a ids):V.fz (dO g) (n+4) v=some (.agg (bd a)):=by
 obtain⟨x,rfl,h2⟩:=h
 have h3:=h2.fz (n:=n+2) (e:=ab) fun hc=>by rw[hc.1];simp[ab,ah,aq,aI]
 simp only[bf,ah,aq,h3,Option.map_some,bd]
theorem F7.fz {g:Rows} {v:AV} {s:aC} {ids:List Id} (n:Nat) (h:F7 g v s ids):V.fz (dO g) (n+5) v=some (.agg (ax s)):=by
 obtain⟨a,b,c,i1,i2,i3,rfl,h2,h3,h4,rfl⟩:=h.ex
 have q1:=h2.fz (n:=n+3) (e:=cm) fun hc=>by rw[hc.1];simp[cm,ah,aq,aI,bt]
 have q2:=h3.fz (n:=n+3) (e:=bq) fun hc=>Kf (n+1) hc
 have q3:=h4.fz (n:=n+3) (e:=ab) fun hc=>by rw[hc.1];simp[ab,ah,aq,aI]
 simp only[bf,ah,aq,q1,q2,q3,aI,Option.map_some,ax]
end Go.Proofs.YtgoelphibofcmaaGreat.V

namespace Go.Proofs.YtgoelphibofcmaaGreat
open Go.RowKit
end Go.Proofs.YtgoelphibofcmaaGreat

namespace Go.Proofs.YtgoelphibofcmaaGreat.V
open Go.RowKit
attribute [local irreducible] dx wpOps gp Call
attribute [local go_sem] aH fC eG fW fV cF upd cj K.av cJ AV.cells AV.cell rowOf rowsOf part ld rowAt bj bY dz eb gT bE cZ er fS eU dp eh cX cW dR dS bH aW cN bG cQ cP ee ei ef cL bP cY ec bF aL cU cw gS bl cG bI aP dd aU dB AV.undef bw bB dV ea dI dG cE ep ev cq ek ej cR cV List.getD_cons_zero List.getD_cons_succ List.getD_nil List.all_cons List.all_nil Bool.and_true Bool.true_and Bool.and_self Bool.not_true Bool.not_false Option.map_some Option.map_none Option.bind_some Option.bind_none List.length_cons List.length_nil List.take_succ_cons List.take_zero List.take_nil List.drop_succ_cons List.drop_zero List.drop_nil List.head?_cons List.map_cons List.map_nil List.getElem?_cons_zero List.getElem?_cons_succ List.cons_append List.nil_append List.append_nil List.length_map List.set_cons_zero List.set_cons_succ Nat.reduceMul eq_self Int.toNat_natCast Int.natCast_nonneg and_self true_and and_true decide_true decide_false Bool.false_eq_true Nat.zero_add Nat.add_zero List.contains_cons List.contains_nil Bool.or_false Bool.false_or beq_self_eq_true Nat.reduceBEq ne_eq not_true_eq_false not_false_eq_true Id.mk.injEq false_and and_false Nat.reduceLT Int.reduceLE Int.reduceLT Int.reduceToNat Int.reduceNeg Int.reduceAdd Nat.le_refl List.length_append beq_true beq_false Bool.not_eq_eq_eq_not or_false false_or dO ah aq aI aZ bt ck aS bf aO aY cK bK
def K7 (σ:ar) (ids:List Id) (g:Rows) (n:Nat):Prop:=σ.next<=n/\∀x:Id,x.bQ<σ.next->x∉ids->g x=σ.get x
theorem K7.trans {a b:ar} {i j:List Id} {g:Rows} {n:Nat} (h:K7 a i b.get b.next) (k:K7 b j g n):K7 a (i++j) g n:=
 ⟨Nat.le_trans h.1 k.1,fun x hx hi=>(k.2 x (Nat.lt_of_lt_of_le hx h.1) fun hc=>hi (by simp[hc])).trans (h.2 x hx fun hc=>hi (by simp[hc]))⟩
theorem K7.sub {a:ar} {i j:List Id} {g:Rows} {n:Nat} (h:K7 a i g n) (hs:∀x∈i,x∈j):K7 a j g n:=⟨h.1,fun x hx hj=>h.2 x hx fun hi=>hj (hs x hi)⟩
end Go.Proofs.YtgoelphibofcmaaGreat.V

namespace Go.Proofs.YtgoelphibofcmaaGreat.V
open Go.RowKit
attribute [local irreducible] dx wpOps gp Call
attribute [local go_sem] aH fC eG fW fV cF upd cj K.av cJ AV.cells AV.cell rowOf rowsOf part ld rowAt bj bY dz eb gT bE cZ er fS eU dp eh cX cW dR dS bH aW cN bG cQ cP ee ei ef cL bP cY ec bF aL cU cw gS bl cG bI aP dd aU dB AV.undef bw bB dV ea dI dG cE ep ev cq ek ej cR cV List.getD_cons_zero List.getD_cons_succ List.getD_nil List.all_cons List.all_nil Bool.and_true Bool.true_and Bool.and_self Bool.not_true Bool.not_false Option.map_some Option.map_none Option.bind_some Option.bind_none List.length_cons List.length_nil List.take_succ_cons List.take_zero List.take_nil List.drop_succ_cons List.drop_zero List.drop_nil List.head?_cons List.map_cons List.map_nil List.getElem?_cons_zero List.getElem?_cons_succ List.cons_append List.nil_append List.append_nil List.length_map List.set_cons_zero List.set_cons_succ Nat.reduceMul eq_self Int.toNat_natCast Int.natCast_nonneg and_self true_and and_true decide_true decide_false Bool.false_eq_true Nat.zero_add Nat.add_zero List.contains_cons List.contains_nil Bool.or_false Bool.false_or beq_self_eq_true Nat.reduceBEq ne_eq not_true_eq_false not_false_eq_true Id.mk.injEq false_and and_false Nat.reduceLT Int.reduceLE Int.reduceLT Int.reduceToNat Int.reduceNeg Int.reduceAdd Nat.le_refl List.length_append beq_true beq_false Bool.not_eq_eq_eq_not or_false false_or dO ah aq aI aZ bt ck aS bf aO aY cK bK
theorem ni.flat {α:Type} {e:α->List AV} {z:Nat} {g:Rows} {a:AV} {xs:List α} {ids:List Id} (h:ni (r4 e) z g a xs ids):∃o,a=.own o 0 xs.length/\g o=some ⟨true,z,xs.map e⟩/\ids=[o]:=by
 obtain⟨o,rows,is,h1,h2,h3,rfl⟩:=h
 have:∀{rows:List (List AV)} {xs:List α} {is:List Id},eL (r4 e) g rows xs is->rows=xs.map e/\is=[]:=fun h=>by
  induction h with
  |nil=>exact⟨rfl,rfl⟩
  |cons h1 _ ih=>obtain⟨rfl,rfl⟩:=h1;obtain⟨rfl,rfl⟩:=ih;exact⟨rfl,rfl⟩
 obtain⟨rfl,rfl⟩:=this h3
 exact⟨o,h1,h2,rfl⟩
end Go.Proofs.YtgoelphibofcmaaGreat.V

namespace Go.Proofs.YtgoelphibofcmaaGreat.V
open Go.RowKit
attribute [local irreducible] dx wpOps gp Call
attribute [local go_sem] aH fC eG fW fV cF upd cj K.av cJ AV.cells AV.cell rowOf rowsOf part ld rowAt bj bY dz eb gT bE cZ er fS eU dp eh cX cW dR dS bH aW cN bG cQ cP ee ei ef cL bP cY ec bF aL cU cw gS bl cG bI aP dd aU dB AV.undef bw bB dV ea dI dG cE ep ev cq ek ej cR cV List.getD_cons_zero List.getD_cons_succ List.getD_nil List.all_cons List.all_nil Bool.and_true Bool.true_and Bool.and_self Bool.not_true Bool.not_false Option.map_some Option.map_none Option.bind_some Option.bind_none List.length_cons List.length_nil List.take_succ_cons List.take_zero List.take_nil List.drop_succ_cons List.drop_zero List.drop_nil List.head?_cons List.map_cons List.map_nil List.getElem?_cons_zero List.getElem?_cons_succ List.cons_append List.nil_append List.append_nil List.length_map List.set_cons_zero List.set_cons_succ eq_self Int.toNat_natCast Int.natCast_nonneg and_self true_and and_true decide_true decide_false Bool.false_eq_true Nat.zero_add Nat.add_zero List.contains_cons List.contains_nil Bool.or_false Bool.false_or beq_self_eq_true ne_eq not_true_eq_false not_false_eq_true Id.mk.injEq false_and and_false Nat.le_refl List.length_append beq_true beq_false Bool.not_eq_eq_eq_not or_false false_or dO ah aq aI aZ bt ck aS bf aO aY cK bK
section
variable {P:Program} {α:Type} {e:α->List AV} {z:Nat} {g g':Rows} {v:AV} {L:List α} {ids:List Id}
def D6 (e:α->List AV) (z:Nat) (g:Rows) (v:AV) (L:List α) (ids:List Id):Prop:=(L=[]/\v=.b4/\ids=[])∨∃o,v=.own o 0 L.length/\g o=some ⟨true,z,L.map e⟩/\ids=[o]/\0<L.length
def nlS (e:α->List AV) (L:List α):AV:=if L.length=0 then .b4 else .sl (L.map e)
theorem D6.frame (h:D6 e z g v L ids) (hf:∀i∈ids,g' i=g i):D6 e z g' v L ids:=by
 rcases h with h|⟨o,h1,h2,rfl,hp⟩
 ·exact .inl h
 ·exact .inr ⟨o,h1,(hf o (by simp)).trans h2,rfl,hp⟩
def zo (e:α->List AV) (L:List α) (w:AV):Prop:=(w=.b4/\L=[])∨w=.sl (L.map e)
theorem D6.fz (h:D6 e z g v L ids) (he:∀x g,da g 5 (e x)=some (e x)):∃w,V.fz (dO g) 6 v=some w/\zo e L w:=by
 rcases h with⟨rfl,rfl,_⟩|⟨o,rfl,h2,_⟩
 ·exact⟨.b4,aS _ _,.inl ⟨rfl,rfl⟩⟩
 ·exact⟨_,gz (e:=e) (sz:=z) (by simp[dO,h2]) rfl fun x=>he x _,.inr rfl⟩
def F0 (P:Program) (f:Nat) (args:List AV) (e:α->List AV) (z:Nat) (L:List α) (c:Int):Prop:=
 ∀n:Nat,Call P f args ⟨fun _=>none,n⟩ (fun r σ'=>∃v ids,r=.gn [v,.int .i64 c]/\D6 e z σ'.get v L ids/\nk n σ'.next ids)
theorem DX (hm:P.follows .mixedOrders=true) {f:Nat} {args:List AV} {σ:ar} {K:AV->ar->Prop} (h:Call P f args σ K):Call P f args σ (fun r σ'=>K r σ'/\σ.next<=σ'.next):=
 gw fun hs D ι w vs S U A=>(fP hm h hs D ι w vs S U A).mono (by
  rintro e w' ⟨r,g',n',D2,ι1,u,rfl,hK,T,S1,U1,hn,hR⟩
  exact⟨r,g',n',D2,ι1,u,rfl,⟨hK,hn⟩,T,S1,U1,hn,hR⟩)
theorem F0.s {f:Nat} {args:List AV} {c:Int} (he:∀x g,dU g 4 (e x)=some (e x)) (h:F0 P f args e z L c):aj P f args (.gn [nlS e L,.int .i64 c]):=fun n=>
 bp _ _ _ _ _ (fun r σ' hq=>by
  obtain⟨v,ids,rfl,ho,hi⟩:=hq
  rcases ho with⟨rfl,rfl,_⟩|⟨o,rfl,h2,_,hp⟩
  ·exact⟨_,by simp only[eo,aX,bD,kc,dQ,Option.map_some];rfl,rfl⟩
  ·have:=fj (e:=e) (n:=4) h2 rfl fun x=>he x _
   exact⟨_,by simp only[eo,aX,bD,this,dQ,Option.map_some];rfl,by rw[nlS,if_neg (by omega)]⟩) (h n)
end
theorem zo.two {α:Type} {e:α->List AV} {L:List α} {w:AV} (h:zo e L w):nf [w] [.sl (L.map e)]:=by
 rcases h with⟨rfl,rfl⟩|rfl
 ·exact .b4 .nil
 ·exact .same _ .nil
theorem zo.cut {α:Type} {e:α->List AV} {L:List α} {w:AV} (h:zo e L w) {l l':List AV} (hl:nf l l'):nf (w::l) (.sl (L.map e)::l'):=by
 rcases h with⟨rfl,rfl⟩|rfl
 ·exact .b4 hl
 ·exact .same _ hl
end Go.Proofs.YtgoelphibofcmaaGreat.V

namespace Go.Proofs.YtgoelphibofcmaaGreat.V
open Go.RowKit
attribute [local irreducible] dx wpOps gp Call
attribute [local go_sem] aH fC eG fW fV cF upd cj K.av cJ AV.cells AV.cell rowOf rowsOf part ld rowAt bj bY dz eb gT bE cZ er fS eU dp eh cX cW dR dS bH aW cN bG cQ cP ee ei ef cL bP cY ec bF aL cU cw gS bl cG bI aP dd aU dB AV.undef bw bB dV ea dI dG cE ep ev cq ek ej cR cV List.getD_cons_zero List.getD_cons_succ List.getD_nil List.all_cons List.all_nil Bool.and_true Bool.true_and Bool.and_self Bool.not_true Bool.not_false Option.map_some Option.map_none Option.bind_some Option.bind_none List.length_cons List.length_nil List.take_succ_cons List.take_zero List.take_nil List.drop_succ_cons List.drop_zero List.drop_nil List.head?_cons List.map_cons List.map_nil List.getElem?_cons_zero List.getElem?_cons_succ List.cons_append List.nil_append List.append_nil List.length_map List.set_cons_zero List.set_cons_succ Nat.reduceMul eq_self Int.toNat_natCast Int.natCast_nonneg and_self true_and and_true decide_true decide_false Bool.false_eq_true Nat.zero_add Nat.add_zero List.contains_cons List.contains_nil Bool.or_false Bool.false_or beq_self_eq_true Nat.reduceBEq ne_eq not_true_eq_false not_false_eq_true Id.mk.injEq false_and and_false Nat.reduceLT Int.reduceLE Int.reduceLT Int.reduceToNat Int.reduceNeg Int.reduceAdd Nat.le_refl List.length_append beq_true beq_false Bool.not_eq_eq_eq_not or_false false_or dO ah aq aI aZ bt ck aS bf aO aY cK bK
theorem Ky (g:Rows) (n:Nat) (x:ad):dU g (n+1) (ab x)=some (ab x):=by simp[ab,aX,bD,dQ]
def Lc (n:Nat) (L:List ad) (r:AV) (σ':ar):Prop:=∃o:Id,r=.agg [.own o 0 L.length]/\σ'.get o=some ⟨true,3,L.map ab⟩/\n<=o.bQ/\o.bQ<σ'.next
theorem Lc.val {f:Nat} {args eB:List AV} {L:List ad} {σ:ar} (h:∀n,Call Tryz.prog f eB ⟨fun _=>none,n⟩ (Lc n L)) (hv:da (dO σ.get) 6 args=some eB):Call Tryz.prog f args σ (fun r σ'=>Lc σ.next L r σ'/\Kept σ σ'):=by
 refine FW mixed hv (bp _ _ _ _ _ (fun r σ' hq=>?_) (DX mixed (h σ.next)))
 obtain⟨⟨o,rfl,h2,h3,h4⟩,hn⟩:=hq
 refine⟨[o],rfl,fun i hi=>?_,⟨o,rfl,(vd (by simp)).trans h2,h3,h4⟩,hn,fun j hj=>rV fun hc=>?_⟩
 ·rw[List.mem_singleton.1 hi]
  exact⟨_,h2,rfl,fun cs dn a ha=>by
   obtain⟨x,_,rfl⟩:=List.mem_map.1 dn
   simp[ab]at ha
   rcases ha with rfl|rfl|rfl<;>rfl⟩
 ·rw[List.mem_singleton.1 hc]at hj;omega
theorem Hi (l:List ad) (hl:l.length<=1048576) (n0:Nat):Call Tryz.prog 99 [.cI [.sl (l.map ab)]] ⟨fun _=>none,n0⟩ (Lc n0 l):=by
 refine iF eI rfl fun mN=>?_
 clear mN
 have Qp:(l.map ab).length<=16777216:=by simp;omega
 have dy:(l.map ab).all (fun c=>c.length==3&&c.all AV.cell)=true:=all_map fun x=>⟨rfl,rfl⟩
 have FL:(l.map ab).length=l.length:=by simp
 generalize nI:l.map ab=rows at Qp dy FL
 (try((repeat(revert hN;revert N;apply Pn.out));refine wk (tw @Qp @dy) ?_;(repeat(refine Pn.mk ?_;intro N hN))))
 exact iE (.inl rfl) (vs:=[.agg [.own ⟨99001005,n0+1⟩ 0 rows.length]]) (sd @Nat.zero_add) ⟨⟨99001005,n0+1⟩,by rw[FL];rfl,by rw[nI];simp only[go_sem, ↓reduceIte,Nat.reduceEqDiff,Nat.reduceAdd,Nat.reduceSub,Nat.reduceLeDiff,reduceCtorEq],by(try dsimp only);omega,by(try dsimp only);omega⟩
def sO (q:ad) (l:List ad):Bool:=l.any fun x=>jl q.aJ x.aJ
theorem AI {q:ad}:∀{l:List ad},sO q l=false->gY l q=l++[q]
 |[],_=>rfl
 |x::l,h=>by
  unfold sO at h
  rw[List.any_cons,Bool.or_eq_false_iff]at h
  rw[gY,if_neg (by rw[h.1];simp),AI h.2];rfl
theorem xr {q y:ad}:∀{l:List ad},sO q l=true->gY (l++[y]) q=gY l q++[y]
 |x::l,h=>by
  unfold sO at h
  rw[List.any_cons]at h
  rw[List.cons_append,gY,gY]
  cases hx:jl q.aJ x.aJ
  ·rw[hx,Bool.false_or]at h
   rw[if_neg (by simp),if_neg (by simp),xr h];rfl
  ·simp
theorem xp {q y:ad}:∀{l:List ad},sO q l=false->jl q.aJ y.aJ=true->gY (l++[y]) q=l++[q]++[y]
 |[],_,hy=>by simp[gY,hy]
 |x::l,h,hy=>by
  unfold sO at h
  rw[List.any_cons,Bool.or_eq_false_iff]at h
  rw[List.cons_append,gY,if_neg (by rw[h.1];simp),xp h.2 hy];rfl
def iJ (q:ad) (l:List ad):List ad:=if sO q l=true then gY l q else l
theorem tR (q:ad) (l:List ad) (y:ad):sO q (l++[y])=(sO q l||jl q.aJ y.aJ):=by simp[sO]
theorem E6 (q:ad) (l:List ad):(iJ q l).length<=l.length+1:=by
 unfold iJ
 split
 ·rw[nQ];omega
 ·omega
theorem HF {q y:ad} {l:List ad} (h:sO q l=true∨jl q.aJ y.aJ=false):iJ q (l++[y])=iJ q l++[y]:=by
 unfold iJ
 rw[tR]
 cases hd:sO q l
 ·rw[hd]at h
  have h2:jl q.aJ y.aJ=false:=by rcases h with h|h;cases h;exact h
  simp[h2]
 ·simp[xr hd]
theorem HE {q y:ad} {l:List ad} (h:sO q l=false) (hy:jl q.aJ y.aJ=true):iJ q (l++[y])=iJ q l++[q]++[y]:=by
 unfold iJ
 rw[tR,h,hy]
 simp[xp h hy]
def QR (m:Nat) (L:List ad) (v:AV) (g:Rows) (n:Nat):Prop:=(L=[]/\v=.b4)∨∃o:Id,v=.own o 0 L.length/\g o=some ⟨true,3,L.map ab⟩/\m<=o.bQ/\o.bQ<n
theorem Ii {l:List ad} {k:Nat} (hk:k<l.length):l.take (k+1)=l.take k++[aE l k]:=by rw[List.take_succ_eq_append_getElem hk,eV hk]
theorem qo (L:List ad) (q:ad):(L++[q]).map ab=L.map ab++[[.int .i64 q.aJ.eS,.int .i64 q.aJ.eH,.int .i64 q.aN]]:=by rw[List.map_append];rfl
theorem iu (L:List ad) (q:ad):(L++[q]).length=L.length+1:=by rw[List.length_append];rfl
theorem Hj (l:List ad) (hl:l.length<=1048576) (p:aB) (t:Int) (n0:Nat):Call Tryz.prog 101 [.cI [.sl (l.map ab)],.agg (ae p),.int .i64 t] ⟨fun _=>none,n0⟩ (Lc n0 (gY l ⟨p,t⟩)):=by
 refine iF eI rfl fun mN=>?_
 clear mN
 obtain⟨q,hq⟩:∃q:ad,q=⟨p,t⟩:=⟨_,rfl⟩
 (try((repeat(revert hN;revert N;apply Pn.out));refine wk @ae.eq_1 ?_;(repeat(refine Pn.mk ?_;intro N hN))))
 refine aQ (fun n env st=>∃i:Nat,n=(l.length)-i/\i<=(l.length)/\env 9=.int .i64 (i:Int)/\env 8=.bool (sO q (l.take i))/\st.get ⟨101000000,n0⟩=some ⟨true,2,[ae p]⟩/\st.get ⟨101000001,n0⟩=some ⟨true,1,[[.b4]]⟩/\(n0+2<=st.next/\∃v,st.get ⟨101001001,n0+1⟩=some ⟨true,1,[[v]]⟩/\QR (n0+2) (iJ q (l.take i)) v st.get st.next)) (l.length) ⟨0,by omega,by omega,sl @ae.eq_1,sl @ae.eq_1,sl @ae.eq_1,sl @ae.eq_1,by(try dsimp only);exact⟨by omega,.b4,sd @Nat.zero_add,.inl ⟨rfl,rfl⟩⟩⟩ ?_
 rintro n_a env_a st_a ⟨i,rfl,ale,a9,a8,ag0,ag1,pU⟩ dY
 have a0:=dY 0 (by kernel_rfl);have a2:=dY 2 (by kernel_rfl);have a4:=dY 4 (by kernel_rfl);have a6:=dY 6 (by kernel_rfl);have a7:=dY 7 (by kernel_rfl)
 simp only[go_sem, ↓reduceIte,Nat.reduceEqDiff,Nat.reduceAdd,Nat.reduceSub,Nat.reduceLeDiff,reduceCtorEq,ae]at a0 a2 a4 a6 a7
 clear dY
 obtain⟨an,v,av,aG⟩:=pU
 have vA:=dD (i:=⟨101000000,n0⟩) (n:=st_a.next) (by(try dsimp only);omega)
 have vB:=dD (i:=⟨101000001,n0⟩) (n:=st_a.next) (by(try dsimp only);omega)
 have vC:=dD (i:=⟨101001001,n0+1⟩) (n:=st_a.next) (by(try dsimp only);omega)
 have Js:=E6 q (l.take i)
 rw[List.length_take]at Js
 by_cases hi:(i:Int)<(l.length:Int)
 ·have cH:∀{e:Env} {gg:Rows} {nx:Nat},(e 9=.int .i64 (IntKind.i64.wrap ((i:Int)+1)))->(e 8=.bool (sO q (l.take (i+1))))->(gg ⟨101000000,n0⟩=some ⟨true,2,[ae p]⟩)->(gg ⟨101000001,n0⟩=some ⟨true,1,[[.b4]]⟩)->(n0+2<=nx/\∃v,gg ⟨101001001,n0+1⟩=some ⟨true,1,[[v]]⟩/\QR (n0+2) (iJ q (l.take (i+1))) v gg nx)->∃m0,m0<(l.length)-i/\∃i:Nat,m0=(l.length)-i/\i<=(l.length)/\e 9=.int .i64 (i:Int)/\e 8=.bool (sO q (l.take i))/\gg ⟨101000000,n0⟩=some ⟨true,2,[ae p]⟩/\gg ⟨101000001,n0⟩=some ⟨true,1,[[.b4]]⟩/\(n0+2<=nx/\∃v,gg ⟨101001001,n0+1⟩=some ⟨true,1,[[v]]⟩/\QR (n0+2) (iJ q (l.take i)) v gg nx):=fun x1 x2 x3 x4 x5=>⟨_,by omega,i+1,rfl,by omega,(by rw[x1,aA (by omega)]),x2,x3,x4,x5⟩
  have e9:i<l.length:=by omega
  have jJ:=fa e9
  have dE:=nh p (aE l i).aJ
  have mQ:=Ii e9
  have Sd:jl q.aJ (aE l i).aJ=jl p (aE l i).aJ:=by rw[hq]
  have kR:(l.map ab).length=l.length:=by simp
  have IH:=tR q (l.take i) (aE l i)
  rw[<-mQ,Sd]at IH
  rw[ae,ae]at dE
  by_cases hc:sO q (l.take i)=true∨jl p (aE l i).aJ=false
  ·have kE:=HF (q:=q) (y:=aE l i) (l:=l.take i) (by rw[Sd];exact hc)
   rw[<-mQ]at kE
   generalize iJ q (l.take i)=L at aG kE Js
   have vV:=iu L (aE l i)
   have qg:=qo L (aE l i)
   have mM:sO q (l.take (i+1))=sO q (l.take i):=by
    rw[IH]
    rcases hc with h|h<;>rw[h]<;>simp
   rcases aG with⟨hL,rfl⟩|⟨o,rfl,ao,aon,aov⟩
   ·subst hL
    cases hd:sO q (l.take i)
    ·have h2:jl p (aE l i).aJ=false:=by rcases hc with h|h;rw[hd]at h;cases h;exact h
     rw[h2]at dE
     rw[hd]at a8 mM
     (repeat(first|((repeat(revert hN;revert N;apply Pn.out));refine wk (tw @a9 (tw @a8 (tw @ag0 (tw @ag1 (tw @a0 (tw @a2 (tw @a4 (tw @a6 (tw @a7 (tw @hi (tw @jJ (tw @vA (tw @vB (tw @vC (tw @av (tw @kR (tw @ae.eq_1 @ab.eq_1))))))))))))))))) ?_;(repeat(refine Pn.mk ?_;intro N hN)))|((try apply Or.inl);refine⟨_,aj.x (dE) (sd (tw @a9 (tw @a8 (tw @ag0 (tw @ag1 (tw @a0 (tw @a2 (tw @a4 (tw @a6 (tw @a7 (tw @hi (tw @jJ (tw @vA (tw @vB (tw @vC (tw @av (tw @kR (tw @ae.eq_1 @ab.eq_1)))))))))))))))))),?_⟩;refine hN _ _ ?_;clear hN N)))
     refine cH ?_ ?_ ?_ ?_ (by(try dsimp only);exact⟨by omega,_,sl @Nat.zero_add,.inr ⟨⟨101009010,st_a.next+1+1⟩,by rw[kE,vV]<;>(simp only[go_sem, ↓reduceIte,Nat.reduceEqDiff,Nat.reduceAdd,Nat.reduceSub,Nat.reduceLeDiff,reduceCtorEq]<;>rfl),by rw[kE,qg]<;>(simp only[go_sem, ↓reduceIte,Nat.reduceEqDiff,Nat.reduceAdd,Nat.reduceSub,Nat.reduceLeDiff,reduceCtorEq]<;>rfl),by(try dsimp only);omega,by(try dsimp only);omega⟩⟩)
     all_goals simp only[go_sem, ↓reduceIte,Nat.reduceEqDiff,Nat.reduceAdd,Nat.reduceSub,Nat.reduceLeDiff,reduceCtorEq,a9,a8,ag0,ag1,a0,a2,a4,a6,a7,mM,vA,vB,vC,ae]
    ·rw[hd]at a8 mM
     (try((repeat(revert hN;revert N;apply Pn.out));refine wk (tw @a9 (tw @a8 (tw @ag0 (tw @ag1 (tw @a0 (tw @a2 (tw @a4 (tw @a6 (tw @a7 (tw @hi (tw @jJ (tw @vA (tw @vB (tw @vC (tw @av (tw @kR (tw @ae.eq_1 @ab.eq_1))))))))))))))))) ?_;(repeat(refine Pn.mk ?_;intro N hN))))
     refine cH ?_ ?_ ?_ ?_ (by(try dsimp only);exact⟨by omega,_,sl @Nat.zero_add,.inr ⟨⟨101009010,st_a.next+1+1⟩,by rw[kE,vV]<;>(simp only[go_sem, ↓reduceIte,Nat.reduceEqDiff,Nat.reduceAdd,Nat.reduceSub,Nat.reduceLeDiff,reduceCtorEq]<;>rfl),by rw[kE,qg]<;>(simp only[go_sem, ↓reduceIte,Nat.reduceEqDiff,Nat.reduceAdd,Nat.reduceSub,Nat.reduceLeDiff,reduceCtorEq]<;>rfl),by(try dsimp only);omega,by(try dsimp only);omega⟩⟩)
     all_goals simp only[go_sem, ↓reduceIte,Nat.reduceEqDiff,Nat.reduceAdd,Nat.reduceSub,Nat.reduceLeDiff,reduceCtorEq,a9,a8,ag0,ag1,a0,a2,a4,a6,a7,mM,vA,vB,vC,ae]
   ·have vo:=dD aov
    have oA:=cr (a:=⟨101000000,n0⟩) (b:=o) (by(try dsimp only);omega)
    have oB:=cr (a:=⟨101000001,n0⟩) (b:=o) (by(try dsimp only);omega)
    have oC:=cr (a:=⟨101001001,n0+1⟩) (b:=o) (by(try dsimp only);omega)
    have KB:(L.map ab).length=L.length:=by simp
    have KA:L.length<=16777215:=by omega
    cases hd:sO q (l.take i)
    ·have h2:jl p (aE l i).aJ=false:=by rcases hc with h|h;rw[hd]at h;cases h;exact h
     rw[h2]at dE
     rw[hd]at a8 mM
     (repeat(first|((repeat(revert hN;revert N;apply Pn.out));refine wk (tw @a9 (tw @a8 (tw @ag0 (tw @ag1 (tw @a0 (tw @a2 (tw @a4 (tw @a6 (tw @a7 (tw @hi (tw @jJ (tw @vA (tw @vB (tw @vC (tw @vo (tw @oA (tw @oB (tw @oC (tw @ao (tw @av (tw @kR (tw @KB (tw @KA (tw @ae.eq_1 @ab.eq_1)))))))))))))))))))))))) ?_;(repeat(refine Pn.mk ?_;intro N hN)))|((try apply Or.inl);refine⟨_,aj.x (dE) (sd (tw @a9 (tw @a8 (tw @ag0 (tw @ag1 (tw @a0 (tw @a2 (tw @a4 (tw @a6 (tw @a7 (tw @hi (tw @jJ (tw @vA (tw @vB (tw @vC (tw @vo (tw @oA (tw @oB (tw @oC (tw @ao (tw @av (tw @kR (tw @KB (tw @KA (tw @ae.eq_1 @ab.eq_1))))))))))))))))))))))))),?_⟩;refine hN _ _ ?_;clear hN N)))
     refine cH ?_ ?_ ?_ ?_ (by(try dsimp only);exact⟨by omega,_,sl @Nat.zero_add,.inr ⟨⟨101009010,st_a.next+1+1⟩,by rw[kE,vV]<;>(simp only[go_sem, ↓reduceIte,Nat.reduceEqDiff,Nat.reduceAdd,Nat.reduceSub,Nat.reduceLeDiff,reduceCtorEq]<;>rfl),by rw[kE,qg]<;>(simp only[go_sem, ↓reduceIte,Nat.reduceEqDiff,Nat.reduceAdd,Nat.reduceSub,Nat.reduceLeDiff,reduceCtorEq]<;>rfl),by(try dsimp only);omega,by(try dsimp only);omega⟩⟩)
     all_goals simp only[go_sem, ↓reduceIte,Nat.reduceEqDiff,Nat.reduceAdd,Nat.reduceSub,Nat.reduceLeDiff,reduceCtorEq,a9,a8,ag0,ag1,a0,a2,a4,a6,a7,mM,vA,vB,vC,oA,oB,oC,ae]
    ·rw[hd]at a8 mM
     (try((repeat(revert hN;revert N;apply Pn.out));refine wk (tw @a9 (tw @a8 (tw @ag0 (tw @ag1 (tw @a0 (tw @a2 (tw @a4 (tw @a6 (tw @a7 (tw @hi (tw @jJ (tw @vA (tw @vB (tw @vC (tw @vo (tw @oA (tw @oB (tw @oC (tw @ao (tw @av (tw @kR (tw @KB (tw @KA (tw @ae.eq_1 @ab.eq_1)))))))))))))))))))))))) ?_;(repeat(refine Pn.mk ?_;intro N hN))))
     refine cH ?_ ?_ ?_ ?_ (by(try dsimp only);exact⟨by omega,_,sl @Nat.zero_add,.inr ⟨⟨101009010,st_a.next+1+1⟩,by rw[kE,vV]<;>(simp only[go_sem, ↓reduceIte,Nat.reduceEqDiff,Nat.reduceAdd,Nat.reduceSub,Nat.reduceLeDiff,reduceCtorEq]<;>rfl),by rw[kE,qg]<;>(simp only[go_sem, ↓reduceIte,Nat.reduceEqDiff,Nat.reduceAdd,Nat.reduceSub,Nat.reduceLeDiff,reduceCtorEq]<;>rfl),by(try dsimp only);omega,by(try dsimp only);omega⟩⟩)
     all_goals simp only[go_sem, ↓reduceIte,Nat.reduceEqDiff,Nat.reduceAdd,Nat.reduceSub,Nat.reduceLeDiff,reduceCtorEq,a9,a8,ag0,ag1,a0,a2,a4,a6,a7,mM,vA,vB,vC,oA,oB,oC,ae]
  ·have hd:sO q (l.take i)=false:=by
    cases h:sO q (l.take i)
    ·rfl
    ·exact absurd (.inl h) hc
   have h2:jl p (aE l i).aJ=true:=by
    cases h:jl p (aE l i).aJ
    ·exact absurd (.inr h) hc
    ·rfl
   have kE:=HE (q:=q) (y:=aE l i) hd (by rw[Sd];exact h2)
   rw[<-mQ]at kE
   have mM:sO q (l.take (i+1))=true:=by rw[IH,h2];simp
   rw[hd]at a8
   rw[h2]at dE
   have Qw:ab q=[.int .i64 p.eS,.int .i64 p.eH,.int .i64 t]:=by rw[hq];rfl
   generalize iJ q (l.take i)=L at aG kE Js
   have vV:=iu (L++[q]) (aE l i)
   have qg:=qo (L++[q]) (aE l i)
   have R3:=iu L q
   have R4:(L++[q]).map ab=L.map ab++[[.int .i64 p.eS,.int .i64 p.eH,.int .i64 t]]:=by rw[List.map_append,List.map_singleton,Qw]
   rw[R3]at vV
   rw[R4]at qg
   rcases aG with⟨hL,rfl⟩|⟨o,rfl,ao,aon,aov⟩
   ·subst hL
    (repeat(first|((repeat(revert hN;revert N;apply Pn.out));refine wk (tw @a9 (tw @a8 (tw @ag0 (tw @ag1 (tw @a0 (tw @a2 (tw @a4 (tw @a6 (tw @a7 (tw @hi (tw @jJ (tw @vA (tw @vB (tw @vC (tw @av (tw @kR (tw @ae.eq_1 @ab.eq_1))))))))))))))))) ?_;(repeat(refine Pn.mk ?_;intro N hN)))|((try apply Or.inl);refine⟨_,aj.x (dE) (sd (tw @a9 (tw @a8 (tw @ag0 (tw @ag1 (tw @a0 (tw @a2 (tw @a4 (tw @a6 (tw @a7 (tw @hi (tw @jJ (tw @vA (tw @vB (tw @vC (tw @av (tw @kR (tw @ae.eq_1 @ab.eq_1)))))))))))))))))),?_⟩;refine hN _ _ ?_;clear hN N)))
    refine cH ?_ ?_ ?_ ?_ (by(try dsimp only);exact⟨by omega,_,sl @Nat.zero_add,.inr ⟨⟨101009010,st_a.next+1+1+1+1⟩,by rw[kE,vV]<;>(simp only[go_sem, ↓reduceIte,Nat.reduceEqDiff,Nat.reduceAdd,Nat.reduceSub,Nat.reduceLeDiff,reduceCtorEq]<;>rfl),by rw[kE,qg]<;>(simp only[go_sem, ↓reduceIte,Nat.reduceEqDiff,Nat.reduceAdd,Nat.reduceSub,Nat.reduceLeDiff,reduceCtorEq]<;>rfl),by(try dsimp only);omega,by(try dsimp only);omega⟩⟩)
    all_goals simp only[go_sem, ↓reduceIte,Nat.reduceEqDiff,Nat.reduceAdd,Nat.reduceSub,Nat.reduceLeDiff,reduceCtorEq,a9,a8,ag0,ag1,a0,a2,a4,a6,a7,mM,vA,vB,vC,ae]
   ·have vo:=dD aov
    have oA:=cr (a:=⟨101000000,n0⟩) (b:=o) (by(try dsimp only);omega)
    have oB:=cr (a:=⟨101000001,n0⟩) (b:=o) (by(try dsimp only);omega)
    have oC:=cr (a:=⟨101001001,n0+1⟩) (b:=o) (by(try dsimp only);omega)
    have KB:(L.map ab).length=L.length:=by simp
    have KA:L.length<=16777214:=by omega
    have Ob:L.length<=16777215:=by omega
    (repeat(first|((repeat(revert hN;revert N;apply Pn.out));refine wk (tw @a9 (tw @a8 (tw @ag0 (tw @ag1 (tw @a0 (tw @a2 (tw @a4 (tw @a6 (tw @a7 (tw @hi (tw @jJ (tw @vA (tw @vB (tw @vC (tw @vo (tw @oA (tw @oB (tw @oC (tw @ao (tw @av (tw @kR (tw @KB (tw @KA (tw @Ob (tw @ae.eq_1 @ab.eq_1))))))))))))))))))))))))) ?_;(repeat(refine Pn.mk ?_;intro N hN)))|((try apply Or.inl);refine⟨_,aj.x (dE) (sd (tw @a9 (tw @a8 (tw @ag0 (tw @ag1 (tw @a0 (tw @a2 (tw @a4 (tw @a6 (tw @a7 (tw @hi (tw @jJ (tw @vA (tw @vB (tw @vC (tw @vo (tw @oA (tw @oB (tw @oC (tw @ao (tw @av (tw @kR (tw @KB (tw @KA (tw @Ob (tw @ae.eq_1 @ab.eq_1)))))))))))))))))))))))))),?_⟩;refine hN _ _ ?_;clear hN N)))
    refine cH ?_ ?_ ?_ ?_ (by(try dsimp only);exact⟨by omega,_,sl @Nat.zero_add,.inr ⟨⟨101009010,st_a.next+1+1+1+1⟩,by rw[kE,vV]<;>(simp only[go_sem, ↓reduceIte,Nat.reduceEqDiff,Nat.reduceAdd,Nat.reduceSub,Nat.reduceLeDiff,reduceCtorEq]<;>rfl),by rw[kE,qg]<;>(simp only[go_sem, ↓reduceIte,Nat.reduceEqDiff,Nat.reduceAdd,Nat.reduceSub,Nat.reduceLeDiff,reduceCtorEq]<;>rfl),by(try dsimp only);omega,by(try dsimp only);omega⟩⟩)
    all_goals simp only[go_sem, ↓reduceIte,Nat.reduceEqDiff,Nat.reduceAdd,Nat.reduceSub,Nat.reduceLeDiff,reduceCtorEq,a9,a8,ag0,ag1,a0,a2,a4,a6,a7,mM,vA,vB,vC,oA,oB,oC,ae]
 ·have kQ:i=l.length:=by omega
  subst kQ
  rw[List.take_length]at a8 aG Js
  cases hd:sO q l
  ·rw[hd]at a8
   have kE:gY l ⟨p,t⟩=iJ q l++[q]:=by rw[<-hq,AI hd,iJ,hd];simp
   have Qw:ab q=[.int .i64 p.eS,.int .i64 p.eH,.int .i64 t]:=by rw[hq];rfl
   generalize iJ q l=L at aG Js kE
   have vV:=iu L q
   have qg:(L++[q]).map ab=L.map ab++[[.int .i64 p.eS,.int .i64 p.eH,.int .i64 t]]:=by rw[List.map_append,List.map_singleton,Qw]
   rcases aG with⟨hL,rfl⟩|⟨o,rfl,ao,aon,aov⟩
   ·subst hL
    (try((repeat(revert hN;revert N;apply Pn.out));refine wk (tw @a9 (tw @a8 (tw @ag0 (tw @ag1 (tw @a0 (tw @a2 (tw @a4 (tw @a6 (tw @a7 (tw @hi (tw @vA (tw @vB (tw @vC (tw @av (tw @ae.eq_1 @ab.eq_1))))))))))))))) ?_;(repeat(refine Pn.mk ?_;intro N hN))))
    exact iE (.inl rfl) (vs:=[.agg [.own ⟨101011006,st_a.next+1+1⟩ 0 1]]) (sd (tw @a9 (tw @a8 (tw @ag0 (tw @ag1 (tw @a0 (tw @a2 (tw @a4 (tw @a6 (tw @a7 @vB)))))))))) ⟨⟨101011006,st_a.next+1+1⟩,by rw[kE];rfl,by rw[kE];simp only[go_sem, ↓reduceIte,Nat.reduceEqDiff,Nat.reduceAdd,Nat.reduceSub,Nat.reduceLeDiff,reduceCtorEq,vB];rw[Qw],by(try dsimp only);omega,by(try dsimp only);omega⟩
   ·have vo:=dD aov
    have oA:=cr (a:=⟨101000000,n0⟩) (b:=o) (by(try dsimp only);omega)
    have oB:=cr (a:=⟨101000001,n0⟩) (b:=o) (by(try dsimp only);omega)
    have oC:=cr (a:=⟨101001001,n0+1⟩) (b:=o) (by(try dsimp only);omega)
    have KB:(L.map ab).length=L.length:=by simp
    have KA:L.length<=16777215:=by omega
    (try((repeat(revert hN;revert N;apply Pn.out));refine wk (tw @a9 (tw @a8 (tw @ag0 (tw @ag1 (tw @a0 (tw @a2 (tw @a4 (tw @a6 (tw @a7 (tw @hi (tw @vA (tw @vB (tw @vC (tw @vo (tw @oA (tw @oB (tw @oC (tw @ao (tw @av (tw @KB (tw @KA (tw @ae.eq_1 @ab.eq_1)))))))))))))))))))))) ?_;(repeat(refine Pn.mk ?_;intro N hN))))
    exact iE (.inl rfl) (vs:=[.agg [.own ⟨101011006,st_a.next+1+1⟩ 0 (L.length+1)]]) (sd (tw @a9 (tw @a8 (tw @ag0 (tw @ag1 (tw @a0 (tw @a2 (tw @a4 (tw @a6 (tw @a7 @vB)))))))))) ⟨⟨101011006,st_a.next+1+1⟩,by rw[kE,vV];rfl,by rw[kE,qg];simp only[go_sem, ↓reduceIte,Nat.reduceEqDiff,Nat.reduceAdd,Nat.reduceSub,Nat.reduceLeDiff,reduceCtorEq,vB],by(try dsimp only);omega,by(try dsimp only);omega⟩
  ·rw[hd]at a8
   have kE:gY l ⟨p,t⟩=iJ q l:=by rw[<-hq,iJ,hd];simp
   have jU:0<(iJ q l).length:=by rw[<-kE,nQ];omega
   generalize iJ q l=L at aG Js jU kE
   rcases aG with⟨hL,rfl⟩|⟨o,rfl,ao,aon,aov⟩
   ·subst hL;cases jU
   ·have vo:=dD aov
    have oB:=cr (a:=⟨101000001,n0⟩) (b:=o) (by(try dsimp only);omega)
    (try((repeat(revert hN;revert N;apply Pn.out));refine wk (tw @a9 (tw @a8 (tw @ag0 (tw @ag1 (tw @a0 (tw @a2 (tw @a4 (tw @a6 (tw @a7 (tw @hi (tw @vA (tw @vB (tw @vC (tw @vo (tw @ao (tw @av (tw @ae.eq_1 @ab.eq_1))))))))))))))))) ?_;(repeat(refine Pn.mk ?_;intro N hN))))
    exact iE (.inl rfl) (vs:=[.agg [.own o 0 L.length]]) (sd (tw @a9 (tw @a8 (tw @ag0 (tw @ag1 (tw @a0 (tw @a2 (tw @a4 (tw @a6 (tw @a7 @vB)))))))))) ⟨o,by rw[kE];rfl,by rw[kE];simp only[go_sem, ↓reduceIte,Nat.reduceEqDiff,Nat.reduceAdd,Nat.reduceSub,Nat.reduceLeDiff,reduceCtorEq,vB,oB,ao],by(try dsimp only);omega,by(try dsimp only);omega⟩
theorem Hl (s:aC) (hP:vH s) (l:List ad) (hA:jn s.aK l) (p:aB) (t:Int) (ht:eC s.aK t=true):aj Tryz.prog 100 [.cI (ax s),.cI [.sl (l.map ab)],.agg [.int .i64 p.eS,.int .i64 p.eH,.int .i64 t]] (.bool (jG s l p t)):=by
 refine aj.body eI rfl fun mN n0=>?_
 clear mN
 have h1:=ur p
 have h2:=(uu s.aK t).cut mixed (.ptr _ [.sl (s.bc.ai.map ab),.int .i64 s.az] (.same _ .nil))
 have h3:=pD l p hA.1.Ff (by have:=hA.1.rf;omega)
 rw[ht]at h2
 by_cases h0:AH p=true
 ·rw[h0]at h1
  obtain⟨hx,hy⟩:=rN h0
  by_cases hi:dZ l p<0
  ·have h4:=(yp s.aK hP.set l hA p hx hy t ht).cut mixed (.ptr _ [.sl (s.bc.ai.map ab),.int .i64 s.az] (.same _ (.same _ (.same _ .nil))))
   have e:jG s l p t=decide (s.az<=r8 s.aK (fY l) p t):=by simp[jG,h0,(Gb hA p).2 hi]
   rw[e]
   (repeat(first|((repeat(revert hN;revert N;apply Pn.out));refine wk (tw @ax.eq_1 (tw @aa.eq_1 (tw @ae.eq_1 @hi))) ?_;(repeat(refine Pn.mk ?_;intro N hN)))|((try apply Or.inl);refine⟨_,aj.x (h1) (sd (tw @ax.eq_1 (tw @aa.eq_1 (tw @ae.eq_1 @hi)))),?_⟩;refine hN _ _ ?_;clear hN N)|((try apply Or.inl);refine⟨_,aj.x (h2) (sd (tw @ax.eq_1 (tw @aa.eq_1 (tw @ae.eq_1 @hi)))),?_⟩;refine hN _ _ ?_;clear hN N)|((try apply Or.inl);refine⟨_,aj.x (h3) (sd (tw @ax.eq_1 (tw @aa.eq_1 (tw @ae.eq_1 @hi)))),?_⟩;refine hN _ _ ?_;clear hN N)|((try apply Or.inl);refine⟨_,aj.x (h4) (sd (tw @ax.eq_1 (tw @aa.eq_1 (tw @ae.eq_1 @hi)))),?_⟩;refine hN _ _ ?_;clear hN N)))
   exact aM (b:=decide (s.az<=r8 s.aK (fY l) p t)) (.inl rfl) (sd @Nat.zero_add) rfl
  ·have e:jG s l p t=false:=by
    have:¬fY l p<0:=fun h=>hi ((Gb hA p).1 h)
    simp[jG,this]
   rw[e]
   (repeat(first|((repeat(revert hN;revert N;apply Pn.out));refine wk (tw @ax.eq_1 (tw @aa.eq_1 (tw @ae.eq_1 @hi))) ?_;(repeat(refine Pn.mk ?_;intro N hN)))|((try apply Or.inl);refine⟨_,aj.x (h1) (sd (tw @ax.eq_1 (tw @aa.eq_1 (tw @ae.eq_1 @hi)))),?_⟩;refine hN _ _ ?_;clear hN N)|((try apply Or.inl);refine⟨_,aj.x (h2) (sd (tw @ax.eq_1 (tw @aa.eq_1 (tw @ae.eq_1 @hi)))),?_⟩;refine hN _ _ ?_;clear hN N)|((try apply Or.inl);refine⟨_,aj.x (h3) (sd (tw @ax.eq_1 (tw @aa.eq_1 (tw @ae.eq_1 @hi)))),?_⟩;refine hN _ _ ?_;clear hN N)))
   exact aM (b:=false) (.inl rfl) (sd @Nat.zero_add) rfl
 ·rw[Bool.not_eq_true]at h0
  rw[h0]at h1
  have e:jG s l p t=false:=by simp[jG,h0]
  rw[e]
  (repeat(first|((repeat(revert hN;revert N;apply Pn.out));refine wk (tw @ax.eq_1 (tw @aa.eq_1 @ae.eq_1)) ?_;(repeat(refine Pn.mk ?_;intro N hN)))|((try apply Or.inl);refine⟨_,aj.x (h1) (sd (tw @ax.eq_1 (tw @aa.eq_1 @ae.eq_1))),?_⟩;refine hN _ _ ?_;clear hN N)))
  exact aM (b:=false) (.inl rfl) (sd @Nat.zero_add) rfl
end Go.Proofs.YtgoelphibofcmaaGreat.V

namespace Go.Proofs.YtgoelphibofcmaaGreat.V
open Go.RowKit
attribute [local irreducible] dx wpOps gp Call
attribute [local go_sem] aH fC eG fW fV cF upd cj K.av cJ AV.cells AV.cell rowOf rowsOf part ld rowAt bj bY dz eb gT bE cZ er fS eU dp eh cX cW dR dS bH aW cN bG cQ cP ee ei ef cL bP cY ec bF aL cU cw gS bl cG bI aP dd aU dB AV.undef bw bB dV ea dI dG cE ep ev cq ek ej cR cV List.getD_cons_zero List.getD_cons_succ List.getD_nil List.all_cons List.all_nil Bool.and_true Bool.true_and Bool.and_self Bool.not_true Bool.not_false Option.map_some Option.map_none Option.bind_some Option.bind_none List.length_cons List.length_nil List.take_succ_cons List.take_zero List.take_nil List.drop_succ_cons List.drop_zero List.drop_nil List.head?_cons List.map_cons List.map_nil List.getElem?_cons_zero List.getElem?_cons_succ List.cons_append List.nil_append List.append_nil List.length_map List.set_cons_zero List.set_cons_succ Nat.reduceMul eq_self Int.toNat_natCast Int.natCast_nonneg and_self true_and and_true decide_true decide_false Bool.false_eq_true Nat.zero_add Nat.add_zero List.contains_cons List.contains_nil Bool.or_false Bool.false_or beq_self_eq_true Nat.reduceBEq ne_eq not_true_eq_false not_false_eq_true Id.mk.injEq false_and and_false Nat.reduceLT Int.reduceLE Int.reduceLT Int.reduceToNat Int.reduceNeg Int.reduceAdd Nat.le_refl List.length_append beq_true beq_false Bool.not_eq_eq_eq_not or_false false_or dO ah aq aI aZ bt ck aS bf aO aY cK bK
theorem DK {g:Rows} {X o:Id} {L:List ad} (hX:g X=some ⟨true,1,[[.own o 0 L.length]]⟩) (ho:g o=some ⟨true,3,L.map ab⟩):fz (dO g) 6 (.ptr X 0 0)=some (.cI [.sl (L.map ab)]):=by
 have h1:fz (dO g) 5 (.own o 0 L.length)=some (.sl (L.map ab)):=gz (e:=ab) (sz:=3) (by simp[dO,ho]) rfl fun x=>by simp[ab,ah,aq,aI]
 exact ua (n:=5) (sz:=1) (rows:=[[.own o 0 L.length]]) (cs:=[.own o 0 L.length]) (by simp[dO,hX]) rfl (by simp[ah,aq,h1])
def IW (X:Id) (st:iL) (e7:AV) (g:Rows) (n:Nat):Prop:=∃o u:Id,g X=some ⟨true,1,[[.own o 0 st.2.length]]⟩/\g o=some ⟨true,3,st.2.map ab⟩/\e7=.own u 0 st.1.length/\g u=some ⟨true,3,st.1.map ab⟩/\o.bQ<u.bQ/\X.bQ<u.bQ/\u.bQ<n/\o≠X
theorem IW.frame {X:Id} {st:iL} {e7 N2:AV} {g g':Rows} {n n':Nat} (h:IW X st e7 g n) (he:N2=e7) (hn:n<=n') (hf:∀x:Id,x.bQ<n->g' x=g x):IW X st N2 g' n':=by
 obtain⟨o,u,h1,h2,h3,h4,h5,h6,h7,h8⟩:=h
 exact⟨o,u,(hf X (by omega)).trans h1,(hf o (by omega)).trans h2,he.trans h3,(hf u h7).trans h4,h5,h6,by omega,h8⟩
theorem sr {s:aC} {st:iL} {x:ad} (h:jG s st.2 x.aJ x.aN=true):iZ s st x=(st.1++[x],gY st.2 x):=if_pos h
theorem uq {s:aC} {st:iL} {x:ad} (h:jG s st.2 x.aJ x.aN=false):iZ s st x=st:=if_neg (by rw[h];simp)
theorem Au (s:aC) (hP:vH s) (l:List ad) (hA:jn s.aK l) (hW:j5 s.bc.ai l=true):aj Tryz.prog 60 [.cI (ax s),.cI [.sl (l.map ab)]] (.gn [.sl ((jZ s l).1.map ab),.agg [.sl ((jZ s l).2.map ab)]]):=by
 refine aj.body eI rfl fun mN n0=>?_
 clear mN
 have GQ:=hA.1.rf
 have Ji:=w8 hP hA hW
 have OS:=Ji.rf
 (try dsimp only at OS)
 (try((repeat(revert hN;revert N;apply Pn.out));refine wk @ax.eq_1 ?_;(repeat(refine Pn.mk ?_;intro N hN))))
 refine .inr (bp _ _ _ _ _ (fun r σ1 hq=>?_) (Lc.val (fun n=>(Hi s.bc.ai (by omega) n).cut mixed (.ptr _ [.int .i64 s.az] .nil)) (by simp only[ah,aq,aO,Option.map_some];rfl)))
 obtain⟨⟨o,rfl,q1,q2,q3⟩,hK⟩:=hq
 obtain⟨g1,x1⟩:=σ1
 (try dsimp only at q1 q2 q3 hK)
 have wS:=hK.1
 have k5:=hK.2 ⟨60000001,n0⟩ (by(try dsimp only);omega)
 simp only[go_sem, ↓reduceIte,Nat.reduceEqDiff,Nat.reduceAdd,Nat.reduceSub,Nat.reduceLeDiff,reduceCtorEq]at k5
 (try dsimp only at wS)
 refine hN _ _ ?_
 clear hN N
 (try((repeat(revert hN;revert N;apply Pn.out));refine wk (tw @k5 @ax.eq_1) ?_;(repeat(refine Pn.mk ?_;intro N hN))))
 refine aQ (fun n env st=>∃(S:iL) (m:Nat) (go:Bool),n=(if go then m else 0)/\env 8=.bool go/\(go=true->ym s l m S=jZ s l/\nE l S.2<m)/\(go=false->S=jZ s l)/\pO s l S/\IW ⟨60001004,x1⟩ S (env 7) st.get st.next/\st.get ⟨60000001,n0⟩=some ⟨true,1,[[.b4]]⟩) (l.length+1) ⟨([],s.bc.ai),l.length+1,true,rfl,sd @Nat.zero_add,fun _=>⟨rfl,by have:=Di l s.bc.ai;(try dsimp only);omega⟩,fun h=>(by cases h),Ji,?_,?_⟩ ?_
 ·have vo:=dD (i:=o) (n:=x1) (by omega)
  have vu:=dD (i:=⟨60001004,x1⟩) (n:=x1+1) (by(try dsimp only);omega)
  exact⟨o,⟨60002000,x1+1⟩,sd @Nat.zero_add,sd (tw @vo @q1),sl @Nat.zero_add,sl @Nat.zero_add,by(try dsimp only);omega,by(try dsimp only);omega,by(try dsimp only);omega,fun e=>by rw[e]at q3;(try dsimp only at q3);omega⟩
 ·simp only[go_sem, ↓reduceIte,Nat.reduceEqDiff,Nat.reduceAdd,Nat.reduceSub,Nat.reduceLeDiff,reduceCtorEq,k5]
 rintro n1 e1 st1 ⟨S,m,go,rfl,e8,qe,hend,hI,hL,hr5⟩ hk
 have c0:=hk 0 (by kernel_rfl)
 have c1:=hk 1 (by kernel_rfl)
 have c5:=hk 5 (by kernel_rfl)
 have c6:=hk 6 (by kernel_rfl)
 simp only[go_sem, ↓reduceIte,Nat.reduceEqDiff,Nat.reduceAdd,Nat.reduceSub,Nat.reduceLeDiff,reduceCtorEq,ax]at c0 c1 c5 c6
 clear hk q1 q2 q3 hK k5
 cases go
 ·have hS:=hend rfl
  subst hS
  clear hend qe
  obtain⟨o,u,h1,h2,h3,h4,h5,h6,h7,h8⟩:=hL
  (try((repeat(revert hN;revert N;apply Pn.out));refine wk (tw @e8 (tw @c5 (tw @c6 (tw @h1 (tw @h3 @hr5))))) ?_;(repeat(refine Pn.mk ?_;intro N hN))))
  have a5:o=⟨60000001,n0⟩->False:=fun e=>by
   rw[e,hr5]at h2
   simp at h2
  have b5:u=⟨60000001,n0⟩->False:=fun e=>by
   rw[e,hr5]at h4
   simp at h4
  have oa:=eq_false a5
  have ob:=eq_false b5
  exact oU (.inl rfl) (vs:=[.own u 0 (jZ s l).1.length,.agg [.own o 0 (jZ s l).2.length]]) (sd (tw @c5 @h3)) (by
   simp only[fo,eo,aX,bD,Dj]
   rw[fj (e:=ab) (l:=(jZ s l).1) (sz:=3) (sd (tw @ob @h4)) rfl (fun x=>Ky _ 3 x),fj (e:=ab) (l:=(jZ s l).2) (sz:=3) (sd (tw @oa @h2)) rfl (fun x=>Ky _ 2 x)];rfl)
 ·obtain⟨hF,hm⟩:=qe rfl
  clear hend qe
  have G8:fw s l S 0=S:=by simp[fw]
  (try((repeat(revert hN;revert N;apply Pn.out));refine wk (tw @e8 (tw @c0 @c1)) ?_;(repeat(refine Pn.mk ?_;intro N hN))))
  refine aQ (fun n env st=>∃i:Nat,n=(l.length)-i/\i<=(l.length)/\env 9=.int .i64 (i:Int)/\(env 8=.bool (decide ((fw s l S i).1.length≠S.1.length))/\IW ⟨60001004,x1⟩ (fw s l S i) (env 7) st.get st.next/\st.get ⟨60000001,n0⟩=some ⟨true,1,[[.b4]]⟩)) (l.length) ⟨0,by omega,by omega,sl (tw @c0 (tw @c1 (tw @c5 @c6))),by(try dsimp only);exact⟨by rw[G8];simp only[go_sem, ↓reduceIte,Nat.reduceEqDiff,Nat.reduceAdd,Nat.reduceSub,Nat.reduceLeDiff,reduceCtorEq]<;>simp,by rw[G8];exact hL.frame (sd @Nat.zero_add) (by(try dsimp only);omega) fun x _=>rfl,hr5⟩⟩ ?_
  rintro n_b env_b st_b ⟨i,rfl,ble,b9,bI0⟩ fE
  have b0:=fE 0 (by kernel_rfl);have b1:=fE 1 (by kernel_rfl);have b5:=fE 5 (by kernel_rfl);have b6:=fE 6 (by kernel_rfl)
  simp only[go_sem, ↓reduceIte,Nat.reduceEqDiff,Nat.reduceAdd,Nat.reduceSub,Nat.reduceLeDiff,reduceCtorEq,c0,c1,c5,c6]at b0 b1 b5 b6
  clear fE
  obtain⟨b8,bL,PS⟩:=bI0
  obtain⟨zi,GV,Bb⟩:=yW hI hA i (by omega)
  by_cases hi:(i:Int)<(l.length:Int)
  ·have fK:∀{e:Env} {gg:Rows} {nx:Nat},(e 9=.int .i64 (IntKind.i64.wrap ((i:Int)+1)))->(e 8=.bool (decide ((fw s l S (i+1)).1.length≠S.1.length))/\IW ⟨60001004,x1⟩ (fw s l S (i+1)) (e 7) gg nx/\gg ⟨60000001,n0⟩=some ⟨true,1,[[.b4]]⟩)->∃m0,m0<(l.length)-i/\∃i:Nat,m0=(l.length)-i/\i<=(l.length)/\e 9=.int .i64 (i:Int)/\(e 8=.bool (decide ((fw s l S i).1.length≠S.1.length))/\IW ⟨60001004,x1⟩ (fw s l S i) (e 7) gg nx/\gg ⟨60000001,n0⟩=some ⟨true,1,[[.b4]]⟩):=fun x1 x2=>⟨_,by omega,i+1,rfl,by omega,(by rw[x1,aA (by omega)]),x2⟩
   have e9:i<l.length:=by omega
   have wV:=pA s l S e9
   have hx:=gj e9
   have ht:=hA.2 _ hx
   have jJ:=fa e9
   have Od:=zi.asm hA
   have Oj:=Hl s hP _ Od (aE l i).aJ (aE l i).aN ht
   have kR:(l.map ab).length=l.length:=by simp
   have Rq:=zi.rf
   have Rr:=zi.len
   generalize fw s l S i=T at zi Od Oj wV Rq Rr Bb b8 bL
   obtain⟨o,u,h1,h2,h3,h4,h5,h6,h7,h8⟩:=bL
   have vo:=dD (i:=o) (n:=st_b.next) (by omega)
   have vu:=dD (i:=u) (n:=st_b.next) (by omega)
   have vX:=dD (i:=⟨60001004,x1⟩) (n:=st_b.next) (by(try dsimp only at h6);(try dsimp only);omega)
   have v5:=dD (i:=⟨60000001,n0⟩) (n:=st_b.next) (by(try dsimp only at h6);(try dsimp only);omega)
   (try((repeat(revert hN;revert N;apply Pn.out));refine wk (tw @b9 (tw @b0 (tw @b1 (tw @b5 (tw @b6 (tw @hi (tw @jJ (tw @kR @ab.eq_1)))))))) ?_;(repeat(refine Pn.mk ?_;intro N hN))))
   refine .inl ⟨_,aj.x Oj (by
    have hp:=DK (g:=bj (bj st_b.get ⟨60009017,st_b.next+1⟩ ⟨true,3,[[.int .i64 0,.int .i64 0,.int .i64 0]]⟩) ⟨60009017,st_b.next+1⟩ ⟨true,3,[[.int .i64 (aE l i).aJ.eS,.int .i64 (aE l i).aJ.eH,.int .i64 (aE l i).aN]]⟩) (X:=⟨60001004,x1⟩) (o:=o) (L:=T.2) (sd (tw @vX @h1)) (sd (tw @vo @h2))
    simp only[ah,aq,aO,hp,bf,aI,Option.map_some]
    rfl),?_⟩
   refine hN _ _ ?_
   clear hN N
   cases hf:jG s T.2 (aE l i).aJ (aE l i).aN
   ·rw[uq hf]at wV
    (try((repeat(revert hN;revert N;apply Pn.out));refine wk (tw @b9 (tw @b0 (tw @b1 (tw @b5 (tw @b6 (tw @hf @jJ)))))) ?_;(repeat(refine Pn.mk ?_;intro N hN))))
    exact fK (sd (tw @b9 (tw @b0 (tw @b1 (tw @b5 @b6))))) (by(try dsimp only);exact⟨by rw[wV];simp only[go_sem, ↓reduceIte,Nat.reduceEqDiff,Nat.reduceAdd,Nat.reduceSub,Nat.reduceLeDiff,reduceCtorEq,b8],by rw[wV];exact(show IW ⟨60001004,x1⟩ T (env_b 7) st_b.get st_b.next from⟨o,u,h1,h2,h3,h4,h5,h6,h7,h8⟩).frame (sd @Nat.zero_add) (by(try dsimp only);omega) (fun y hy=>by
     have h9:=dD hy
     simp only[go_sem, ↓reduceIte,Nat.reduceEqDiff,Nat.reduceAdd,Nat.reduceSub,Nat.reduceLeDiff,reduceCtorEq,h9]),sd (tw @v5 @PS)⟩)
   ·rw[sr hf]at wV
    (try((repeat(revert hN;revert N;apply Pn.out));refine wk (tw @b9 (tw @b0 (tw @b1 (tw @b5 (tw @b6 (tw @hf @jJ)))))) ?_;(repeat(refine Pn.mk ?_;intro N hN))))
    refine .inr (bp _ _ _ _ _ (fun r σ2 hq=>?_) (Lc.val (fun n=>Hj T.2 (by omega) (aE l i).aJ (aE l i).aN n) (by
     have hp:=DK (g:=bj (bj st_b.get ⟨60009017,st_b.next+1⟩ ⟨true,3,[[.int .i64 0,.int .i64 0,.int .i64 0]]⟩) ⟨60009017,st_b.next+1⟩ ⟨true,3,[[.int .i64 (aE l i).aJ.eS,.int .i64 (aE l i).aJ.eH,.int .i64 (aE l i).aN]]⟩) (X:=⟨60001004,x1⟩) (o:=o) (L:=T.2) (sd (tw @vX @h1)) (sd (tw @vo @h2))
     simp only[ah,aq,hp,bf,aI,Option.map_some]
     rfl)))
    obtain⟨⟨o2,rfl,p1,p2,p3⟩,hK⟩:=hq
    obtain⟨g2,x2⟩:=σ2
    (try dsimp only at p1 p2 p3 hK)
    have OK:=hK.1
    (try dsimp only at OK)
    have hXb:x1<st_b.next:=by(try dsimp only at h6);omega
    have kX:=hK.2 ⟨60001004,x1⟩ (by(try dsimp only);omega)
    have k5:=hK.2 ⟨60000001,n0⟩ (by(try dsimp only);omega)
    have ku:=hK.2 u (by(try dsimp only);omega)
    have kt:=hK.2 ⟨60009017,st_b.next+1⟩ (by(try dsimp only);omega)
    simp only[go_sem, ↓reduceIte,Nat.reduceEqDiff,Nat.reduceAdd,Nat.reduceSub,Nat.reduceLeDiff,reduceCtorEq,vX,v5,vu,h1,h4,PS]at kX k5 ku kt
    have lr:=nQ (aE l i) T.2
    have hpe:gY T.2 ⟨(aE l i).aJ,(aE l i).aN⟩=gY T.2 (aE l i):=rfl
    rw[hpe]at p1 ⊢
    refine hN _ _ ?_
    clear hN N
    have Sm:(T.1.map ab).length=T.1.length:=by simp
    have QA:T.1.length<=16777215:=by omega
    have uX:=cr (a:=⟨60001004,x1⟩) (b:=u) (by(try dsimp only at h6);(try dsimp only);omega)
    have u5:=cr (a:=⟨60000001,n0⟩) (b:=u) (by(try dsimp only at h6);(try dsimp only);omega)
    have SE:=dD (i:=u) (n:=x2) (by omega)
    have vX2:=dD (i:=⟨60001004,x1⟩) (n:=x2) (by(try dsimp only);omega)
    have v52:=dD (i:=⟨60000001,n0⟩) (n:=x2) (by(try dsimp only);omega)
    have QM:=dD (i:=⟨60009017,st_b.next+1⟩) (n:=x2) (by(try dsimp only);omega)
    have ut:=cr (a:=u) (b:=⟨60009017,st_b.next+1⟩) (by(try dsimp only);omega)
    (try((repeat(revert hN;revert N;apply Pn.out));refine wk (tw @b9 (tw @b0 (tw @b1 (tw @b5 (tw @b6 (tw @kX (tw @ku (tw @kt (tw @h3 (tw @uX (tw @ut (tw @SE (tw @vX2 (tw @QM (tw @Sm @QA))))))))))))))) ?_;(repeat(refine Pn.mk ?_;intro N hN))))
    have hd:decide ((T.1++[aE l i]).length≠S.1.length)=true:=decide_eq_true (by rw[iu];omega)
    have vV:=iu T.1 (aE l i)
    have qg:=qo T.1 (aE l i)
    have Py:=dD (i:=o2) (n:=x2) (by omega)
    have uo2:=cr (a:=u) (b:=o2) (by omega)
    have X2:=cr (a:=⟨60001004,x1⟩) (b:=o2) (by(try dsimp only);omega)
    exact fK (sd (tw @b9 (tw @b0 (tw @b1 (tw @b5 @b6))))) (by(try dsimp only);exact⟨by rw[wV,hd]<;>simp only[go_sem, ↓reduceIte,Nat.reduceEqDiff,Nat.reduceAdd,Nat.reduceSub,Nat.reduceLeDiff,reduceCtorEq],by
     rw[wV]
     exact⟨o2,⟨60012003,x2+1⟩,sl (tw @vX2 (tw @uX @lr)),sd (tw @Py (tw @uo2 (tw @X2 @p1))),by rw[vV];simp only[go_sem, ↓reduceIte,Nat.reduceEqDiff,Nat.reduceAdd,Nat.reduceSub,Nat.reduceLeDiff,reduceCtorEq]<;>rfl,by rw[qg];simp only[go_sem, ↓reduceIte,Nat.reduceEqDiff,Nat.reduceAdd,Nat.reduceSub,Nat.reduceLeDiff,reduceCtorEq]<;>rfl,by(try dsimp only);omega,by(try dsimp only);omega,by(try dsimp only);omega,fun e=>by rw[e]at p2;(try dsimp only at p2);omega⟩,sd (tw @v52 (tw @u5 @k5))⟩)
  ·have kQ:i=l.length:=by omega
   subst kQ
   rw[rH]at zi bL b8 GV
   have pr:=w7 hI hA hm
   (try((repeat(revert hN;revert N;apply Pn.out));refine wk (tw @b9 (tw @b0 (tw @b1 (tw @b5 (tw @b6 @hi))))) ?_;(repeat(refine Pn.mk ?_;intro N hN))))
   have P3:IW ⟨60001004,x1⟩ (ga s l S) (env_b 7) st_b.get st_b.next:=bL
   by_cases he:(ga s l S).1.length=S.1.length
   ·refine⟨0,by show 0<m;omega,ga s l S,0,false,rfl,?_,fun h=>(by cases h),fun _=>(pr.1 he).symm.trans hF,zi,P3.frame (sd @Nat.zero_add) (by(try dsimp only);omega) fun x _=>rfl,PS⟩
    simp only[go_sem, ↓reduceIte,Nat.reduceEqDiff,Nat.reduceAdd,Nat.reduceSub,Nat.reduceLeDiff,reduceCtorEq,b8,he]<;>simp
   ·obtain⟨m',rfl,Jg,IP⟩:=pr.2 he
    refine⟨m',Nat.lt_succ_self _,ga s l S,m',true,rfl,?_,fun _=>⟨Jg.symm.trans hF,IP⟩,fun h=>(by cases h),zi,P3.frame (sd @Nat.zero_add) (by(try dsimp only);omega) fun x _=>rfl,PS⟩
    have hd:=decide_eq_true he
    simp only[go_sem, ↓reduceIte,Nat.reduceEqDiff,Nat.reduceAdd,Nat.reduceSub,Nat.reduceLeDiff,reduceCtorEq,b8]
    rw[hd]
end Go.Proofs.YtgoelphibofcmaaGreat.V

namespace Go.Proofs.YtgoelphibofcmaaGreat.V
open Go.RowKit
attribute [local irreducible] dx wpOps gp Call
attribute [local go_sem] aH fC eG fW fV cF upd cj K.av cJ AV.cells AV.cell rowOf rowsOf part ld rowAt bj bY dz eb gT bE cZ er fS eU dp eh cX cW dR dS bH aW cN bG cQ cP ee ei ef cL bP cY ec bF aL cU cw gS bl cG bI aP dd aU dB AV.undef bw bB dV ea dI dG cE ep ev cq ek ej cR cV List.getD_cons_zero List.getD_cons_succ List.getD_nil List.all_cons List.all_nil Bool.and_true Bool.true_and Bool.and_self Bool.not_true Bool.not_false Option.map_some Option.map_none Option.bind_some Option.bind_none List.length_cons List.length_nil List.take_succ_cons List.take_zero List.take_nil List.drop_succ_cons List.drop_zero List.drop_nil List.head?_cons List.map_cons List.map_nil List.getElem?_cons_zero List.getElem?_cons_succ List.cons_append List.nil_append List.append_nil List.length_map List.set_cons_zero List.set_cons_succ Nat.reduceMul eq_self Int.toNat_natCast Int.natCast_nonneg and_self true_and and_true decide_true decide_false Bool.false_eq_true Nat.zero_add Nat.add_zero List.contains_cons List.contains_nil Bool.or_false Bool.false_or beq_self_eq_true Nat.reduceBEq ne_eq not_true_eq_false not_false_eq_true Id.mk.injEq false_and and_false Nat.reduceLT Int.reduceLE Int.reduceLT Int.reduceToNat Int.reduceNeg Int.reduceAdd Nat.le_refl List.length_append beq_true beq_false Bool.not_eq_eq_eq_not or_false false_or dO ah aq aI aZ bt ck aS bf aO aY cK bK
def QH (ps:List aB) (i:Nat):aB:=ps.getD i ⟨0,0⟩
theorem HM {ps:List aB} {i:Nat} (h:i<ps.length):QH ps i=ps[i]:=by simp[QH,List.getD_eq_getElem?_getD,h]
def NR (ps:List aB):Prop:=ps.Pairwise fun a b=>jl a b=true
theorem NR.at_ {ps:List aB} (h:NR ps) {i j:Nat} (BZ:i<j) (hj:j<ps.length):jl (QH ps i) (QH ps j)=true:=by
 rw[HM hj,HM (by omega)]
 exact List.pairwise_iff_getElem.1 h i j (by omega) hj BZ
end Go.Proofs.YtgoelphibofcmaaGreat.V

namespace Go.Proofs.YtgoelphibofcmaaGreat.V
open Go.RowKit Go.Shelf Go.Lib Go.Sort
instance:Inhabited aB:=⟨⟨0,0⟩⟩
variable {P:Program} {w:World} {D:Nat->Prop} {ι:Names}
theorem HN {vs:Array Value} (h:e6 P w D ι [] vs):vs= #[]:=Array.eq_empty_of_size_eq_zero h.1
theorem xu {a:AV} {r:List AV} {vs:Array Value} (h:e6 P w D ι (a::r) vs):∃u us,vs=(u::us).toArray/\cu P w D ι a u/\e6 P w D ι r us.toArray:=by
 obtain⟨h1,h2⟩:=h
 obtain⟨l⟩:=vs
 cases l with
 |nil=>simp at h1
 |cons u us=>
  obtain⟨u',hu,hr⟩:=h2 0 a rfl
  simp at hu;subst hu
  exact⟨u,us,rfl,hr,by simpa using h1,fun j b hj=>by
   obtain⟨v,hv,kS⟩:=h2 (j+1) b (by simpa using hj)
   exact⟨v,by simpa using hv,kS⟩⟩
end Go.Proofs.YtgoelphibofcmaaGreat.V

namespace Go.Proofs
open Go.Shelf
def Tryz.CD:Go.Shelf.Ren:=⟨fun|6=>209|15=>207|14=>235|28=>233|29=>234|20=>252|21=>253|22=>254|23=>255|24=>256|25=>257|26=>258|27=>259|46=>268|47=>248|48=>249|49=>269|50=>270|57=>274|n=>n,fun|22=>39|24=>137|25=>243|3=>3|39=>216|0=>0|53=>268|55=>270|4=>4|46=>262|45=>261|50=>177|5=>5|9=>9|66=>287|70=>291|76=>312|77=>313|n=>n,fun|n=>n⟩
theorem Tryz.H0:Go.Proofs.SlLaysF0.n6 Tryz.prog Tryz.CD:={
 mixed:=by kernel_rfl
 f6:=⟨Tryz.f209.name,by decide,Tryz.func209.trans (congrArg some (by kernel_rfl))⟩
 f14:=⟨Tryz.f235.name,by decide,Tryz.func235.trans (congrArg some (by kernel_rfl))⟩
 f15:=Tryz.func207.trans (congrArg some (by kernel_rfl))
 f20:=⟨Tryz.f252.name,by decide,Tryz.func252.trans (congrArg some (by kernel_rfl))⟩
 f21:=⟨Tryz.f253.name,by decide,Tryz.func253.trans (congrArg some (by kernel_rfl))⟩
 f22:=⟨Tryz.f254.name,by decide,Tryz.func254.trans (congrArg some (by kernel_rfl))⟩
 f23:=⟨Tryz.f255.name,by decide,Tryz.func255.trans (congrArg some (by kernel_rfl))⟩
 f24:=⟨Tryz.f256.name,by decide,Tryz.func256.trans (congrArg some (by kernel_rfl))⟩
 f25:=⟨Tryz.f257.name,by decide,Tryz.func257.trans (congrArg some (by kernel_rfl))⟩
 f26:=⟨Tryz.f258.name,by decide,Tryz.func258.trans (congrArg some (by kernel_rfl))⟩
 f27:=⟨Tryz.f259.name,by decide,Tryz.func259.trans (congrArg some (by kernel_rfl))⟩
 f28:=Tryz.func233.trans (congrArg some (by kernel_rfl))
 f29:=Tryz.func234.trans (congrArg some (by kernel_rfl))
 f46:=⟨Tryz.f268.name,by decide,Tryz.func268.trans (congrArg some (by kernel_rfl))⟩
 f47:=Tryz.func248.trans (congrArg some (by kernel_rfl))
 f48:=Tryz.func249.trans (congrArg some (by kernel_rfl))
 f49:=⟨Tryz.f269.name,by decide,Tryz.func269.trans (congrArg some (by kernel_rfl))⟩
 f50:=⟨Tryz.f270.name,by decide,Tryz.func270.trans (congrArg some (by kernel_rfl))⟩
 f57:=⟨Tryz.f274.name,by decide,Tryz.func274.trans (congrArg some (by kernel_rfl))⟩
 t0:=Tryz.underlying0
 a0:=Tryz.isAgg0
 z0:=Tryz.sizeOf0
 v0:=Tryz.zeroValue0
 t3:=Tryz.underlying3
 a3:=Tryz.isAgg3
 z3:=Tryz.sizeOf3
 v3:=Tryz.zeroValue3
 t4:=Tryz.underlying4
 a4:=Tryz.isAgg4
 z4:=Tryz.sizeOf4
 v4:=Tryz.zeroValue4
 t5:=Tryz.underlying5
 a5:=Tryz.isAgg5
 z5:=Tryz.sizeOf5
 v5:=Tryz.zeroValue5
 t9:=Tryz.underlying9
 a9:=Tryz.isAgg9
 z9:=Tryz.sizeOf9
 v9:=Tryz.zeroValue9
 t22:=Tryz.underlying39
 a22:=Tryz.isAgg39
 z22:=Tryz.sizeOf39
 v22:=Tryz.zeroValue39
 t25:=Tryz.underlying243
 a25:=Tryz.isAgg243
 z25:=Tryz.sizeOf243
 v25:=Tryz.zeroValue243
 t39:=Tryz.underlying216
 a39:=Tryz.isAgg216
 z39:=Tryz.sizeOf216
 v39:=Tryz.zeroValue216
 t45:=Tryz.underlying261
 a45:=Tryz.isAgg261
 z45:=Tryz.sizeOf261
 v45:=Tryz.zeroValue261
 t46:=Tryz.underlying262
 a46:=Tryz.isAgg262
 z46:=Tryz.sizeOf262
 v46:=Tryz.zeroValue262
 t50:=Tryz.underlying177
 a50:=Tryz.isAgg177
 z50:=Tryz.sizeOf177
 v50:=Tryz.zeroValue177
 t53:=Tryz.underlying268
 a53:=Tryz.isAgg268
 z53:=Tryz.sizeOf268
 v53:=Tryz.zeroValue268
 t55:=Tryz.underlying270
 a55:=Tryz.isAgg270
 z55:=Tryz.sizeOf270
 v55:=Tryz.zeroValue270
 t66:=Tryz.underlying287
 a66:=Tryz.isAgg287
 z66:=Tryz.sizeOf287
 v66:=Tryz.zeroValue287
 t70:=Tryz.underlying291
 a70:=Tryz.isAgg291
 z70:=Tryz.sizeOf291
 v70:=Tryz.zeroValue291
 t76:=Tryz.underlying312
 a76:=Tryz.isAgg312
 z76:=Tryz.sizeOf312
 v76:=Tryz.zeroValue312
 t77:=Tryz.underlying313
 a77:=Tryz.isAgg313
 z77:=Tryz.sizeOf313
 v77:=Tryz.zeroValue313}
end Go.Proofs

namespace Go.Proofs.YtgoelphibofcmaaGreat.V
open Go.RowKit Go.Shelf Go.Lib Go.Sort
theorem zH (w:World) (a b:Int):Calls Tryz.prog 178 #[.int .i64 a,.int .i64 b] w fun e w'=>e=.returned (.int .i64 (p9 a b))/\w=w':=by
 go_enter Tryz.func178,Tryz.ntmps178
 go_wp2_with go_in
 all_goals
  go_ret
  exact⟨DM (by unfold p9;split<;>(try split)<;>omega),rfl⟩
theorem JY (w:World) (a b:Int) (g:Nat) (ha:w.cell? ⟨g,0,none⟩=some (.int .i64 a)) (hb:w.cell? ⟨g,1,none⟩=some (.int .i64 b)):Calls Tryz.prog 177 #[.slice (some ⟨g,0,none⟩) 2 2] w fun e w'=>e=.returned (.int .i64 (JZ a b))/\w=w':=by
 go_enter Tryz.func177,Tryz.ntmps177
 go_wp2_with fail
 go_loop [8] (fun i=>∃k:Nat,k<=2/\i=.int .i64 k/\Hid ((1<=k->a=0)/\(2<=k->b=0))) (fun i=>2-(intOf i).toNat)
 case atStart=>exact⟨0,by omega,rfl,Lib.hid ⟨fun h=>by omega,fun h=>by omega⟩⟩
 case round=>
  obtain⟨k,hk,rfl,hz⟩:=hrel
  have h3:k=0∨k=1∨k=2:=by omega
  rcases h3 with rfl|rfl|rfl
  ·go_wp2_with fail
   ·rename_i h
    go_ret
    exact⟨DM (by unfold JZ;simp_all),rfl⟩
   ·rename_i h
    go_round
    case rel=>exact⟨1,by omega,rfl,Lib.hid ⟨fun _=>by simpa using h,fun h=>by omega⟩⟩
    case measure=>simp[intOf]
  ·have h0:=hz.out.1 (by omega)
   replace h0:=Lib.hid h0
   go_wp2_with fail
   ·go_ret
    exact⟨DM (by unfold JZ;rw[if_pos h0.out]),rfl⟩
   ·rename_i h
    go_round
    case rel=>exact⟨2,by omega,rfl,Lib.hid ⟨fun _=>h0.out,fun _=>by simpa using h⟩⟩
    case measure=>simp[intOf]
  ·have h0:=Lib.hid (hz.out.1 (by omega))
   have h1:=Lib.hid (hz.out.2 (by omega))
   go_wp2_with fail
   go_ret
   exact⟨DM (by unfold JZ;rw[if_pos h0.out,h1.out]),rfl⟩
def Grown (w w':World):Prop:=∃(q:Nat) (os:Array Obj),w'=Go.Sort.grow (w.drewN q) os
theorem Grown.refl (w:World):Grown w w:=⟨0, #[],by rw[grow_empty];rfl⟩
theorem Grown.alloc {w w':World} (h:Grown w w') (o:Obj):Grown w (w'.alloc o):=by
 obtain⟨q,os,rfl⟩:=h
 exact⟨q,os++ #[o],by rw[alloc_eq_grow,grow_grow]⟩
theorem Grown.drew {w w':World} (h:Grown w w'):Grown w w'.drew:=by
 obtain⟨q,os,rfl⟩:=h
 exact⟨q+1,os,by rw[drew_grow];rfl⟩
theorem Grown.dN {w w':World} (h:Grown w w') (n:Nat):Grown w (w'.drewN n):=by
 obtain⟨q,os,rfl⟩:=h
 exact⟨q+n,os,by
  show Go.Sort.grow ((w.drewN q).drewN n) os=Go.Sort.grow (w.drewN (q+n)) os
  simp[World.drewN,Nat.add_assoc]⟩
theorem sN (w:World) (a b:aB):Calls Tryz.prog 130 #[.agg #[.int .i64 a.eS,.int .i64 a.eH],.agg #[.int .i64 b.eS,.int .i64 b.eH]] w fun e w'=>e=.returned (.int .i64 (qa a b))/\Grown w w':=by
 go_enter Tryz.func130,Tryz.ntmps130
 go_wp2_with fail
 go_region_held3 (fun w'=>w'.cell? ⟨w.heap.size,0,none⟩=some (.int .i64 a.eS)/\w'.cell? ⟨w.heap.size,1,none⟩=some (.int .i64 a.eH)/\
   w'.cell? ⟨w.heap.size+1,0,none⟩=some (.int .i64 b.eS)/\w'.cell? ⟨w.heap.size+1,1,none⟩=some (.int .i64 b.eH))
  (first|go_keep)
  (first|(go_at_call 178;refine(zH _ _ _).mono ?_;rintro e w' ⟨rfl,rfl⟩)|(go_at_call 177;refine(JY _ (p9 a.eH b.eH) (p9 a.eS b.eS) _ (by simp[go_sem]) (by simp[go_sem])).mono ?_;rintro e w' ⟨rfl,rfl⟩))
 go_wp2_with fail
 go_ret
 refine⟨rfl,?_⟩
 repeat(first|(with_reducible exact Grown.refl _)|(refine Grown.alloc ?_ _)|(refine Grown.drew ?_)|(refine Grown.dN ?_ _))
end Go.Proofs.YtgoelphibofcmaaGreat.V

namespace Go.Proofs.YtgoelphibofcmaaGreat.V
open Go.RowKit Go.Shelf Go.Lib Go.Sort
instance:Inhabited ad:=⟨⟨⟨0,0⟩,0⟩⟩
variable {P:Program} {w:World} {D:Nat->Prop} {ι:Names}
def Ee (a b:ad):Int:=qa a.aJ b.aJ
theorem s4 (a b:ad):ltOf Ee a b=jl a.aJ b.aJ:=by rw[ltOf,Ee,s5]
def F5:Prop:=∀(vJ off cap:Nat) (d:Array ad) (w:World),HoldsK eM 3 w vJ off d->vJ<w.heap.size->d.size<4611686018427387904->
 Calls Tryz.prog 209 #[.slice (some ⟨vJ,off,none⟩) d.size cap,.func (.func 210) #[] #[]] w fun e w'=>e=.returned (.tuple #[])/\∃d' n os,PermIn 0 d.size d d'/\SortedIn (ltOf Ee) 0 d.size d'/\w'=sortWorldK eM 3 w vJ off n d' os
def F6:Prop:=∀(p:Option Addr) (cap:Nat) (fv:Value) (w:World),Calls Tryz.prog 209 #[.slice p 0 cap,fv] w fun e w'=>e=.returned (.tuple #[])/\w'=w
theorem Gs (p:ad) (j:Nat) (a:AV) (h:(ab p)[j]? =some a) (P:Program) (w:World) (D:Nat->Prop) (ι:Names):cu P w D ι a (eM p)[j]! :=by
 match j,h with
 |0,h=>simp[ab]at h;subst h;exact .eD _ _ (.int _ _)
 |1,h=>simp[ab]at h;subst h;exact .eD _ _ (.int _ _)
 |2,h=>simp[ab]at h;subst h;exact .eD _ _ (.int _ _)
 |j+3,h=>simp[ab]at h
theorem Fm (hC:F5) (hN:F6) (ps:List ad) (hlen:ps.length<=1048576) (σ:ar) (id:Id) (hg:σ.get id=some ⟨true,3,ps.map ab⟩):
  Call Tryz.prog 209 [.own id 0 ps.length,.fn 210 []] σ fun r σ'=>σ'.next=σ.next/\(∀x,x≠id->σ'.get x=σ.get x)/\∃qs,σ'.get id=some ⟨true,3,qs.map ab⟩/\qs.length=ps.length/\qs.Perm ps/\∀i j:Nat,i<j->j<qs.length->jl (aE qs j).aJ (aE qs i).aJ=false:=by
 refine gw fun hs D ι w vs S U A=>?_
 obtain⟨u1,us1,rfl,h1,h2⟩:=xu A
 obtain⟨u2,us2,h3,h4,h5⟩:=xu h2
 simp at h3;subst h3
 have:=HN h5
 simp at this;subst this
 obtain⟨o,cap,B,rfl,hB,GL,ho,rq,hmax,hk⟩:=iy h1
 obtain⟨SC,gf,rfl,_,hz,_,_⟩:=yJ h4
 have hz':SC= #[]:=Array.eq_empty_of_size_eq_zero (by simpa using hz)
 subst hz'
 by_cases h0:ps=[]
 ·subst h0
  refine(hN _ _ _ w).mono ?_
  rintro e w' ⟨rfl,rfl⟩
  exact⟨.gn [],σ.get,σ.next,D,ι,_,rfl,⟨rfl,fun _ _=>rfl,[],hg,rfl,List.Perm.refl _,fun i j _ hj=>by simp at hj⟩,Step.refl _ _ _ _,S,U,Nat.le_refl _,.gn [] #[] (fun _=>Go.undef) rfl (fun j hj=>by simp at hj) (fun j a h=>by simp at h)⟩
 have jU:0<ps.length:=List.length_pos_iff.2 h0
 obtain⟨B',dr,R,jS,oe⟩:=S.row id _ hg
 rw[hB]at dr;injection dr with dr;subst dr
 replace R:=R.row hk
 have eW:B.sz=3:=R.sz
 have Bd:o=0:=by rcases ho with h|h<;>omega
 subst Bd
 obtain⟨cur,T,hblk,dn,Dl⟩:=R.cur
 have zY:ps.length*3<=B.C:=by simpa using R.fits
 have hH:HoldsK eM 3 w B.b 0 ps.toArray:=by
  intro t ht
  rw[size_flatK]at ht
  have ht2:t<ps.length*3:=by simpa using ht
  have hi:t / 3<ps.length:=by omega
  have A9:w.frozen? ⟨B.b,0+t,none⟩=false:=by
   simp only[World.frozen?,hblk];simp
  refine⟨?_,A9⟩
  rw[get_flatK _ _ _ _ ht]
  have hd:(ps.toArray)[t / 3]! =ps[t / 3]:=by simp[getElem!_pos,hi]
  rw[hd]
  have hj:t % 3=0∨t % 3=1∨t % 3=2:=by omega
  have ht3:0+t=(t / 3)*3+t % 3:=by omega
  rw[ht3]
  rcases hj with hj|hj|hj
  ·obtain⟨v,hv,hr⟩:=R.at_ (t / 3) 0 (ab ps[t / 3]) _ (by simp[hi]) rfl
   rw[de hr]at hv
   rw[hj];exact hv
  ·obtain⟨v,hv,hr⟩:=R.at_ (t / 3) 1 (ab ps[t / 3]) _ (by simp[hi]) rfl
   rw[de hr]at hv
   rw[hj];exact hv
  ·obtain⟨v,hv,hr⟩:=R.at_ (t / 3) 2 (ab ps[t / 3]) _ (by simp[hi]) rfl
   rw[de hr]at hv
   rw[hj];exact hv
 have oQ:B.b<w.heap.size:=(Array.getElem?_eq_some_iff.1 hblk).1
 have Om:=hC B.b 0 cap ps.toArray w hH oQ (by simp;omega)
 rw[show ps.toArray.size=ps.length from by simp]at Om
 refine Om.mono ?_
 rintro e w' ⟨rfl,d',m,os,⟨Dt,_,Dq⟩,hsort,rfl⟩
 have Ow:d'.size=ps.length:=by rw[Dt];simp
 have hql:d'.toList.length=ps.length:=by simpa using Ow
 have hP:d'.toList.Perm ps:=by
  have e1:d'.extract 0 ps.length=d':=by rw[<-Ow];exact Array.extract_size
  have e2:ps.toArray.extract 0 ps.length=ps.toArray:=by
   have:ps.length=ps.toArray.size:=by simp
   rw[this];exact Array.extract_size
  rw[e1,e2]at Dq
  simpa using Dq
 have hF:∀t,t<ps.length*3->(flatK eM 3 d')[t]! =(eM d'[t / 3]!)[t % 3]! :=fun t ht=>get_flatK _ _ _ _ (by rw[Ow];exact ht)
 have hFs:(flatK eM 3 d').size=ps.length*3:=by rw[size_flatK,Ow]
 have hw:sortWorldK eM 3 w B.b 0 m d' os=Go.Sort.grow (Go.Sort.putRow (fun v:Value=>v) (Go.Sort.ahead w m) B.b 0 (flatK eM 3 d')) os:=rfl
 rw[hw]
 clear hw hH
 generalize flatK eM 3 d'=Fl at hF hFs ⊢
 have uj:=S.put (r':=⟨true,3,d'.toList.map ab⟩) (cur':=Go.Sort.putCells (fun v:Value=>v) 0 Fl cur) hg rfl hB hblk (by simp[Go.Sort.putCells]) rfl rfl (by simpa[Ow]using zY) (fun cs dn=>by
   obtain⟨x,_,rfl⟩:=List.mem_map.1 dn;rfl) (fun cs dn a ha=>by
   obtain⟨x,_,rfl⟩:=List.mem_map.1 dn
   simp[ab]at ha;rcases ha with rfl|rfl|rfl<;>rfl) (fun i j cs a hi hj=>by
   have wP:i<d'.toList.length:=by
    have:=(List.getElem?_eq_some_iff.1 hi).1
    simpa using this
   have hj2:j<3:=by
    have:=List.mem_of_getElem? hi
    obtain⟨x,_,rfl⟩:=List.mem_map.1 this
    exact(List.getElem?_eq_some_iff.1 hj).1
   have Rx:cs=ab d'[i]! :=by
    rw[List.getElem?_map,List.getElem?_eq_getElem wP]at hi
    simp at hi
    rw[<-hi,getElem!_pos d' i (by simpa using wP)]
   subst Rx
   have Mj:i*3+j<ps.length*3:=by omega
   refine⟨(eM d'[i]!)[j]!,?_,Gs _ _ _ hj _ _ _ _⟩
   have nH:i*3+j<cur.size:=by rw[dn];omega
   show(Go.Sort.putCells (fun v:Value=>v) 0 Fl cur)[i*3+j]? = _
   simp only[Go.Sort.putCells,Array.getElem?_mapIdx,Array.getElem?_eq_getElem nH,Option.map_some]
   rw[if_pos ⟨Nat.zero_le _,by rw[hFs];omega⟩,Nat.sub_zero,hF _ Mj,show(i*3+j) / 3=i from by omega,show(i*3+j) % 3=j from by omega])
 obtain⟨S1,qT⟩:=uj
 have OV:(Go.Sort.putRow (fun v:Value=>v) (Go.Sort.ahead w m) B.b 0 Fl).heap.size=w.heap.size:=by simp
 have KH:∀k,k<(w.setRow B.b (Go.Sort.putCells (fun v:Value=>v) 0 Fl cur)).heap.size->(Go.Sort.grow (Go.Sort.putRow (fun v:Value=>v) (Go.Sort.ahead w m) B.b 0 Fl) os).heap[k]? =(w.setRow B.b (Go.Sort.putCells (fun v:Value=>v) 0 Fl cur)).heap[k]? :=fun k hk=>by
  have EC:k<w.heap.size:=by simpa using hk
  rw[heap_grow_old _ _ (by rw[OV];exact EC)]
  simp only[Go.Sort.putRow,Go.Sort.mapBlock,heap_ahead,Array.getElem?_modify]
  by_cases RP:B.b=k
  ·subst RP
   rw[setRow_heap w B.b cur _ T _ hblk,if_pos rfl,hblk];rfl
  ·rw[if_neg RP,setRow_other w B.b k _ (fun h=>RP h.symm)]
 have lu:(w.setRow B.b (Go.Sort.putCells (fun v:Value=>v) 0 Fl cur)).heap.size<=(Go.Sort.grow (Go.Sort.putRow (fun v:Value=>v) (Go.Sort.ahead w m) B.b 0 Fl) os).heap.size:=by
  rw[size_grow,OV];simp
 have S2:=S1.stay (D':=D) (ι':=ι) KH lu (fun _ h=>h) (fun b hb=>Nat.lt_of_lt_of_le (S1.dead b hb) lu) (fun _ h=>.inl h) (fun _ _ h=>h)
 have Lf:=qT.trans (Step.stay (D':=D) (ι':=ι) S1 KH lu (by simp[Go.Sort.grow,Go.Sort.putRow,Go.Sort.mapBlock,Go.Sort.ahead]) (by simp[Go.Sort.grow,Go.Sort.putRow,Go.Sort.mapBlock,Go.Sort.ahead]) (by simp[Go.Sort.grow,Go.Sort.putRow,Go.Sort.mapBlock,Go.Sort.ahead]) (fun _ h=>h) (fun _ h=>.inl h) (fun _ _ h=>h))
 refine⟨.gn [],bj σ.get id ⟨true,3,d'.toList.map ab⟩,σ.next,D,ι,_,rfl,⟨rfl,fun x hx=>by simp[bj,hx],d'.toList,by simp[bj],hql,hP,fun i j BZ hj=>?_⟩,Lf,S2,U,Nat.le_refl _,.gn [] #[] (fun _=>Go.undef) rfl (fun j hj=>by simp at hj) (fun j a h=>by simp at h)⟩
 have h:=hsort i j (Nat.zero_le _) BZ (by omega)
 rw[s4]at h
 have e1:d'[j]! =aE d'.toList j:=by rw[eV hj,getElem!_pos d' j (by simpa using hj)];rfl
 have hi:i<d'.toList.length:=by omega
 have e2:d'[i]! =aE d'.toList i:=by rw[eV hi,getElem!_pos d' i (by simpa using hi)];rfl
 rw[<-e1,<-e2];exact h
theorem K8 {w w':World} (h:Grown w w') (os:Array Obj):Grown w (Go.Sort.grow w' os):=by
 obtain⟨q,os0,rfl⟩:=h
 exact⟨q,os0++os,by rw[grow_grow]⟩
theorem I6 (w:World) (a b:ad):Calls Tryz.prog 210 #[.agg #[.int .i64 a.aJ.eS,.int .i64 a.aJ.eH,.int .i64 a.aN],.agg #[.int .i64 b.aJ.eS,.int .i64 b.aJ.eH,.int .i64 b.aN]] w fun e w'=>e=.returned (.int .i64 (Ee a b))/\Grown w w':=by
 go_enter Tryz.func210,Tryz.ntmps210
 go_wp2_with (first|(go_at_call 130;refine(sN _ a.aJ b.aJ).mono ?_;rintro e w' ⟨rfl,hG⟩))
 obtain⟨q,os,rfl⟩:=hG
 go_ret
 refine⟨rfl,K8 (Grown.dN ?_ q) os⟩
 repeat(first|(with_reducible exact Grown.refl _)|(refine Grown.alloc ?_ _)|(refine Grown.drew ?_)|(refine Grown.dN ?_ _))
theorem SB:SWO (ltOf Ee) where
 irrefl x:=by rw[s4];exact l6
 trans x y z h1 h2:=by rw[s4]at *;exact jv h1 h2
 ntrans x y z h1 h2:=by rw[s4]at *;rw[oi]at *;omega
theorem ML:F5:=fun vJ off cap d w hH hblk eW=>by
 have eg:∀args w,(callFunc 210 args).run Tryz.prog w=.ok (.enter 210 args) w:=enters_of Tryz.func210 (by kernel_rfl) rfl
 have h:=AnyQ.slices_SortFunc Tryz.H0 3 Tryz.isAgg137 Tryz.sizeOf137 eM (fun _=>rfl) (fun x v hv=>by simp[eM]at hv;rcases hv with rfl|rfl|rfl<;>rfl) Ee SB 210 #[] vJ off cap d w eg (fun m os dk _ x y=>(I6 _ x y).mono fun _ _ ⟨he,q,os',hw⟩=>⟨he,q,os',hw⟩) hH hblk eW
 exact h
theorem MM:F6:=fun p cap fv w=>AnyF.slices_SortFunc_none Tryz.H0 p cap fv w
end Go.Proofs.YtgoelphibofcmaaGreat.V

namespace Go.Proofs.YtgoelphibofcmaaGreat.V
open Go.RowKit
attribute [local irreducible] dx wpOps gp Call
attribute [local go_sem] aH fC eG fW fV cF upd cj K.av cJ AV.cells AV.cell rowOf rowsOf part ld rowAt bj bY dz eb gT bE cZ er fS eU dp eh cX cW dR dS bH aW cN bG cQ cP ee ei ef cL bP cY ec bF aL cU cw gS bl cG bI aP dd aU dB AV.undef bw bB dV ea dI dG cE ep ev cq ek ej cR cV List.getD_cons_zero List.getD_cons_succ List.getD_nil List.all_cons List.all_nil Bool.and_true Bool.true_and Bool.and_self Bool.not_true Bool.not_false Option.map_some Option.map_none Option.bind_some Option.bind_none List.length_cons List.length_nil List.take_succ_cons List.take_zero List.take_nil List.drop_succ_cons List.drop_zero List.drop_nil List.head?_cons List.map_cons List.map_nil List.getElem?_cons_zero List.getElem?_cons_succ List.cons_append List.nil_append List.append_nil List.length_map List.set_cons_zero List.set_cons_succ Nat.reduceMul eq_self Int.toNat_natCast Int.natCast_nonneg and_self true_and and_true decide_true decide_false Bool.false_eq_true Nat.zero_add Nat.add_zero List.contains_cons List.contains_nil Bool.or_false Bool.false_or beq_self_eq_true Nat.reduceBEq ne_eq not_true_eq_false not_false_eq_true Id.mk.injEq false_and and_false Nat.reduceLT Int.reduceLE Int.reduceLT Int.reduceToNat Int.reduceNeg Int.reduceAdd Nat.le_refl List.length_append beq_true beq_false Bool.not_eq_eq_eq_not or_false false_or dO ah aq aI aZ bt ck aS bf aO aY cK bK
theorem Pp {σ:ar} {c T O:Id} {s:aC} {ts:List ad} (h:k9 σ.get σ.next c T O s ts) (hS:ig s.aK) (hF:∀q,0<=fY ts q->eC s.aK (fY ts q)=true) (p:aB) (hp:AH p=true) (t:Int) (ht:eC s.aK t=true) (h0:dZ ts p<0):
  Call Tryz.prog 134 [.ptr c 0 0,.agg (ae p),.int .i64 t] σ (fun r σ'=>r=.gn []/\k9 σ'.get σ'.next c T O s (ts++[⟨p,t⟩])/\σ.next<=σ'.next/\∀x:Id,x.bQ<σ.next->x≠T->x≠O->σ'.get x=σ.get x):=by
 refine iF eI rfl fun mN=>?_
 clear mN
 obtain⟨hx,hy⟩:=rN hp
 have kG:=kV.1 h0
 have Jg:∀q,0<=fY (ts++[⟨p,t⟩]) q->eC s.aK (fY (ts++[⟨p,t⟩]) q)=true:=fun q hq=>by
  rw[xP q kG]at hq ⊢
  split at hq
  ·rename_i he;rw[if_pos he];exact ht
  ·rename_i he;rw[if_neg he];exact hF q hq
 obtain⟨rows,ho,hw⟩:=h.op
 obtain⟨fi,EA⟩:=AF hw p.eS p.eH
 have h1:=h.row
 have h2:=h.tl
 have v1:=dD h.cv
 have v2:=dD h.tv
 have v3:=dD h.ov
 have hm:=pH h0
 have cT:=eq_false h.cT
 have cO:=eq_false h.cO
 have TO:=eq_false h.TO
 have Tc:=eq_false (fun e:T=c=>h.cT e.symm)
 have Oc:=eq_false (fun e:O=c=>h.cO e.symm)
 have OT:=eq_false (fun e:O=T=>h.TO e.symm)
 (try((repeat(revert hN;revert N;apply Pn.out));refine wk (tw @h1 (tw @h2 (tw @ho (tw @v1 (tw @v2 (tw @v3 (tw @hm (tw @EA (tw @cT (tw @cO (tw @TO (tw @Tc (tw @Oc (tw @OT @ae.eq_1)))))))))))))) ?_;(repeat(refine Pn.mk ?_;intro N hN))))
 have hG:∀x:Id,x.bQ<σ.next->x≠T->x≠O->(bj (bj (bj σ.get ⟨134000000,σ.next⟩ ⟨true,2,[[.int .i64 p.eS,.int .i64 p.eH]]⟩) T ⟨true,mP.oq,ts.map ab++[[.int .i64 p.eS,.int .i64 p.eH,.int .i64 t]]⟩) O ⟨true,mP.oq,dG rows fi⟩) x=σ.get x:=fun x Mp Ss KS=>by
  have a1:=eq_false Ss
  have a2:=eq_false KS
  have a3:=dD Mp
  simp only[go_sem, ↓reduceIte,Nat.reduceEqDiff,Nat.reduceAdd,Nat.reduceSub,Nat.reduceLeDiff,reduceCtorEq,a1,a2,a3]
 have hC:k9 (bj (bj (bj σ.get ⟨134000000,σ.next⟩ ⟨true,2,[[.int .i64 p.eS,.int .i64 p.eH]]⟩) T ⟨true,mP.oq,ts.map ab++[[.int .i64 p.eS,.int .i64 p.eH,.int .i64 t]]⟩) O ⟨true,mP.oq,dG rows fi⟩) (σ.next+1+1+1+1) c T O s (ts++[⟨p,t⟩]):=
  ⟨(hG c h.cv h.cT h.cO).trans h1,by simp only[go_sem, ↓reduceIte,Nat.reduceEqDiff,Nat.reduceAdd,Nat.reduceSub,Nat.reduceLeDiff,reduceCtorEq,TO];rw[List.map_append];rfl,⟨_,sd @Nat.zero_add,HG hw fi⟩,by have:=h.cv;omega,by have:=h.tv;omega,by have:=h.ov;omega,h.cT,h.cO,h.TO⟩
 refine .inr (bp _ _ _ _ _ (fun r σ1 hq=>?_) (ql (σ:=⟨_,σ.next+1+1+1+1⟩) hC.vn hC.cO hC.TO hC.op hS Jg p hx hy))
 obtain⟨g1,x1⟩:=σ1
 obtain⟨rfl,hL⟩:=hq
 (try dsimp only at hL)
 have GH:=hC.look (σ:=⟨_,σ.next+1+1+1+1⟩) hL
 have hn:=hL.1
 have hf:=hL.2.1
 (try dsimp only at hn hf)
 refine hN _ _ ?_
 clear hN N
 (try((repeat(revert hN;revert N;apply Pn.out));refine wk @Nat.zero_add ?_;(repeat(refine Pn.mk ?_;intro N hN))))
 exact iE (.inr rfl) (vs:=[]) rfl ⟨rfl,GH.frame (by(try dsimp only);omega) fun _ _=>rfl,by(try dsimp only);omega,fun x Mp Ss KS=>(hf x (by omega) KS).trans (hG x Mp Ss KS)⟩
end Go.Proofs.YtgoelphibofcmaaGreat.V

namespace Go.Proofs.YtgoelphibofcmaaGreat.V
open Go.RowKit
def AM (m:MK) (it nx ok en:Nat) (id:Id) (B:(Ex->Env->ar->Prop)->Env->ar->Prop) (b b1:Nat) (Q:Ex->Env->ar->Prop):Nat->List (List AV)->Env->ar->Prop
 |0,_,env,σ=>env it=.ptr id 0 0/\Q .normal (upd (upd env (some nx) (.gn [.bool false])) (some ok) (.bool false)) ⟨σ.get,σ.next+1⟩
 |n+1,left,env,σ=>env it=.ptr id 0 0/\∀i cs kv vv,left[i]? =some cs->part m.ka m.ks cs=some kv->cs[m.ks]? =some vv->
   B (aU b1 (dd (AM m it nx ok en id B b b1 Q n (left.eraseIdx i)) (aU b Q))) (upd (upd (upd env (some nx) (.gn [.bool true,kv,vv])) (some ok) (.bool true)) (some en) (.gn [kv,vv])) ⟨σ.get,σ.next+1⟩
def Fh (m:MK) (tm:O) (site it nx ok en:Nat) (B:(Ex->Env->ar->Prop)->Env->ar->Prop) (b b1:Nat) (Q:Ex->Env->ar->Prop) (env:Env) (σ:ar):Prop:=
 ∃id r,cF env tm=.map id m/\σ.get id=some r/\r.w=true/\AM m it nx ok en ⟨site,σ.next⟩ B b b1 Q r.rows.length r.rows (upd env (some it) (.ptr ⟨site,σ.next⟩ 0 0)) ⟨bj σ.get id {r with w:=false},σ.next+1⟩
variable {P:Program} {w w':World} {D D':Nat->Prop} {ι ι':Names} {hs:Nat} {g:Rows}
theorem jh.BL (hc:∀b x,D b->w'.cell? ⟨b,x,none⟩=w.cell? ⟨b,x,none⟩) {a:AV} {v:Value} (h:jh P w D a v):jh P w' D a v:=by
 induction h with
 |int k n=>exact .int k n
 |bool b=>exact .bool b
 |str s=>exact .str s
 |b4=>exact .b4
 |gD=>exact .gD
 |iD=>exact .iD
 |iQ=>exact .iQ
 |zm a c h=>exact .zm a c h
 |sl rows b o n c sz vs h1 h2 h3 h4 h5 h5' h6 _ ih=>exact .sl rows b o n c sz vs h1 h2 h3 h4 h5 h5' (fun i j hi hj=>(hc b _ h4).trans (h6 i j hi hj)) ih
 |cI cs b o vs h1 LH h2 _ ih=>exact .cI cs b o vs h1 LH (fun j hj=>(hc b _ h1).trans (h2 j hj)) ih
 |agg cs vs f h1 h2 h3 _ ih=>exact .agg cs vs f h1 h2 h3 ih
 |fn f cC vs g h1 h2 h3 _ ih=>exact .fn f cC vs g h1 h2 h3 ih
theorem cu.BL (hc:∀b x,D b->w'.cell? ⟨b,x,none⟩=w.cell? ⟨b,x,none⟩) {a:AV} {v:Value} (h:cu P w D ι a v):cu P w' D ι a v:=by
 induction h with
 |eD a v h=>exact .eD a v (h.BL hc)
 |map id m B h1 h2=>exact .map id m B h1 h2
 |p7 id c B h1 h2=>exact .p7 id c B h1 h2
 |own id off len o cap B h1 h2 h3 h4 h5 h6=>exact .own id off len o cap B h1 h2 h3 h4 h5 h6
 |ptr id i off B h1 h2=>exact .ptr id i off B h1 h2
 |agg cs vs f h1 h2 h3 _ ih=>exact .agg cs vs f h1 h2 h3 ih
 |gn cs vs f h1 h2 _ ih=>exact .gn cs vs f h1 h2 ih
 |fn f cC vs g h1 h2 h3 _ ih=>exact .fn f cC vs g h1 h2 h3 ih
 |sC f cC vs g h1 h2 h3 _ ih=>exact .sC f cC vs g h1 h2 h3 ih
def lU (w:World) (rr:Nat):Prop:=∃m s seen c,w.heap[rr]? =some (.mapIter m s seen c)
theorem lU.cell {rr:Nat} (h:lU w rr) (x:Nat):w.cell? ⟨rr,x,none⟩=none:=by
 obtain⟨m,s,seen,c,h⟩:=h
 simp[World.cell?,h]
theorem gu.Hz {B:qO} {r:Row} (R:gu P w D ι B r):¬lU w B.b:=by
 rintro⟨m,s,seen,c,h⟩
 cases hk:B.k with
 |none=>obtain⟨c',T,h3,_⟩:=(R.row hk).vJ;rw[h]at h3;cases h3
 |some k=>
  cases k with
  |map m=>obtain⟨_,es,c',h3,_⟩:=R.map m hk;rw[h]at h3;cases h3
  |chan c=>obtain⟨_,buf,s',q,h3,_⟩:=R.chan c hk;rw[h]at h3;cases h3
theorem xb {rr:Nat} (h:lU w rr) (h':lU w' rr) (ho:∀b,b≠rr->w'.heap[b]? =w.heap[b]?):(∀{a v},cu P w D ι a v->cu P w' D ι a v):=fun hr=>hr.BL fun b x _=>by
 by_cases hb:b=rr
 ·subst hb;rw[h.cell,h'.cell]
 ·exact World.cell?_of_block (ho b hb)
theorem fR.iter {rr:Nat} (S:fR P hs D ι g w) (h:lU w rr) (h':lU w' rr) (ho:∀b,b≠rr->w'.heap[b]? =w.heap[b]?) (hz:w'.heap.size=w.heap.size):fR P hs D ι g w':=
 ⟨by rw[hz];exact S.lo,fun b hb=>by rw[hz];exact S.dead b hb,fun id r hg=>by
  obtain⟨B,hB,R,k1,k2⟩:=S.row id r hg
  exact⟨B,hB,R.frame (ho _ fun e=>R.Hz (e▸h)) fun a v hr=>xb h h' ho hr,k1,k2⟩,S.inj⟩
theorem lR {ops:Array Oper} {Q:Exit->Act->World->Prop} {a:Act} {o:Oper} {l:List Oper} {v:Value} (hg:o.guard=none) (fI:(execOp a.eval o).run P w=.ok (.value v) w') (h:wpList P ops Q l (a.put o.dst v) w'):wpList P ops Q (o::l) a w:=by
 unfold wpList
 rw[if_pos (by simp[Region.wanted,hg])]
 exact .inl (by unfold Oper.wp;rw[fI];exact h)
theorem HQ {x y:AV} {u v:Value} (h1:cu P w D ι x u) (h2:cu P w D ι y v):cu P w D ι (.gn [x,y]) (.tuple #[u,v]):=
 .gn _ _ (fun j=>if j=0 then u else v) rfl (fun j hj=>by match j,hj with|0,_=>rfl|1,_=>rfl|j+2,hj=>simp at hj;omega) (fun j a ha=>by match j,ha with|0,ha=>simp at ha;subst ha;exact h1|1,ha=>simp at ha;subst ha;exact h2|j+2,ha=>simp at ha)
theorem HR {x y z:AV} {u v t:Value} (h1:cu P w D ι x u) (h2:cu P w D ι y v) (h3:cu P w D ι z t):cu P w D ι (.gn [x,y,z]) (.tuple #[u,v,t]):=
 .gn _ _ (fun j=>if j=0 then u else if j=1 then v else t) rfl (fun j hj=>by match j,hj with|0,_=>rfl|1,_=>rfl|2,_=>rfl|j+3,hj=>simp at hj;omega) (fun j a ha=>by match j,ha with|0,ha=>simp at ha;subst ha;exact h1|1,ha=>simp at ha;subst ha;exact h2|2,ha=>simp at ha;subst ha;exact h3|j+3,ha=>simp at ha)
theorem HP {x:AV} {u:Value} (h1:cu P w D ι x u):cu P w D ι (.gn [x]) (.tuple #[u]):=
 .gn _ _ (fun _=>u) rfl (fun j hj=>by match j,hj with|0,_=>rfl|j+1,hj=>simp at hj) (fun j a ha=>by match j,ha with|0,ha=>simp at ha;subst ha;exact h1|j+1,ha=>simp at ha)
structure Kq (P:Program) (w:World) (D:Nat->Prop) (ι:Names) (m:MK) (L:List MapEntry) (left:List (List AV)):Prop where
 len:left.length=L.length
 at_:∀(i:Nat) (cs:List AV),left[i]? =some cs->∃(e:MapEntry) (kv vv:AV),L[i]? =some e/\part m.ka m.ks cs=some kv/\cs[m.ks]? =some vv/\cu P w D ι kv e.key/\cu P w D ι vv e.val
theorem Kq.rep {m:MK} {L:List MapEntry} {left:List (List AV)} (h:Kq P w D ι m L left) (hr:∀{a v},cu P w D ι a v->cu P w' D' ι' a v):Kq P w' D' ι' m L left:=⟨h.len,fun i cs hi=>by
 obtain⟨e,kv,vv,h1,h2,h3,h4,h5⟩:=h.at_ i cs hi
 exact⟨e,kv,vv,h1,h2,h3,hr h4,hr h5⟩⟩
theorem lZ {α β:Type} {l:List α} {k:List β} {i j:Nat} {x:α} (hl:l.length=k.length) (h:(l.eraseIdx i)[j]? =some x):∃q:Nat,l[q]? =some x/\(k.eraseIdx i)[j]? =k[q]? :=by
 rw[List.getElem?_eraseIdx]at h
 split at h
 ·rename_i hj;exact⟨j,h,by rw[List.getElem?_eraseIdx,if_pos hj]⟩
 ·rename_i hj;exact⟨j+1,h,by rw[List.getElem?_eraseIdx,if_neg hj]⟩
theorem Kq.erase {m:MK} {L:List MapEntry} {left:List (List AV)} (h:Kq P w D ι m L left) {i:Nat} (hi:i<L.length):Kq P w D ι m (L.eraseIdx i) (left.eraseIdx i):=⟨by
 rw[List.length_eraseIdx,List.length_eraseIdx,h.len],fun j cs hj=>by
 obtain⟨q,hq,he⟩:=lZ h.len hj
 obtain⟨e,kv,vv,h1,h2⟩:=h.at_ q cs hq
 exact⟨e,kv,vv,he.trans h1,h2⟩⟩
theorem mz:∀{l:List MapEntry} {i:Nat} {e:MapEntry},(l.map (·.born)).Nodup->l[i]? =some e->l.filter (fun x=>x.born !=e.born)=l.eraseIdx i
 |x::l,0,e,hn,h=>by
  simp at h;subst h
  obtain⟨h1,h2⟩:=List.nodup_cons.1 (show(x.born::l.map (·.born)).Nodup from hn)
  rw[List.filter_cons,if_neg (by simp),List.eraseIdx_cons_zero]
  refine List.filter_eq_self.2 fun y hy=>?_
  have:y.born≠x.born:=fun hc=>h1 (by rw[<-hc];exact List.mem_map_of_mem hy)
  simpa using this
 |x::l,i+1,e,hn,h=>by
  obtain⟨h1,h2⟩:=List.nodup_cons.1 (show(x.born::l.map (·.born)).Nodup from hn)
  simp only[List.getElem?_cons_succ]at h
  have hx:x.born≠e.born:=fun hc=>h1 (by rw[hc];exact List.mem_map_of_mem (List.mem_of_getElem? h))
  rw[List.filter_cons,if_pos (by simpa using hx),List.eraseIdx_cons_succ,mz h2 h]
theorem Ch {es:Array MapEntry} {clock:Nat} {seen:Array Nat} {i:Nat} {e:MapEntry} (hs:IY es clock) (h:(leftOf es seen).toList[i]? =some e):(leftOf es (seen.push e.born)).toList=(leftOf es seen).toList.eraseIdx i:=by
 have hn:((leftOf es seen).toList.map (·.born)).Nodup:=by
  unfold leftOf
  rw[Array.toList_filter]
  exact((List.filter_sublist (p:=fun e=> !seen.contains e.born) (l:=es.toList)).map MapEntry.born).nodup hs.2
 rw[<-mz hn h]
 unfold leftOf
 rw[Array.toList_filter,Array.toList_filter,List.filter_filter]
 refine List.filter_congr fun x _=>?_
 rw[contains_push]
 cases seen.contains x.born<;>cases hb:(x.born==e.born)<;>simp_all
theorem eval_put {a:Act} {d:Nat} {v:Value} (h:d<a.tmps.size):(a.put (some d) v).eval (.tmp d)=v:=by
 simp[Act.put,Act.eval,h]
def HV (ix ie b b1 ok:Nat) (Cm E5 Cl:Oper) (qu:List Oper) (mv:Code):Code:=
 .seq (.region ix #[Cm,E5] false) (.seq (.cond (.tmp ok) .skip (.exit b)) (.block b1 (.seq (.region ie (Cl::qu).toArray false) mv)))
structure F4 (P:Program) (md:List (Nat×Nat)) (nt fid s0 it nx ok en:Nat) (Cm E5 Cl:Oper) (qu:List Oper) (mv:Code) (vE:List aT) (qM:VC):Prop where
 h1:Cm.op=.next (.tmp it) false
 h2:Cm.dst=some nx
 h3:Cm.guard=none
 h4:E5.op=.extract (.tmp nx) 0
 h5:E5.dst=some ok
 h6:E5.guard=none
 h7:Cl.op=.entry (.tmp it)
 h8:Cl.dst=some en
 h9:Cl.guard=none
 NM:nx<nt
 QG:ok<nt
 lt3:en<nt
 ne1:it≠nx
 ne2:it≠ok
 hE:allM (j9 P (Cl::qu).toArray nt s0 false false #[] []) qu 1=some vE
 hR:iU P md nt fid mv=some qM
theorem Cw (hm:P.follows .mixedOrders=true) {md:List (Nat×Nat)} {nt fid s0 ix ie b b1 it nx ok en:Nat} {m:MK} {id:Id} {Cm E5 Cl:Oper} {qu:List Oper} {mv:Code} {vE:List aT} {qM:VC}
  (O:F4 P md nt fid s0 it nx ok en Cm E5 Cl qu mv vE qM) {rr bm:Nat} {es:Array MapEntry} {clock:Nat} (EG:IY es clock) {ds:List Deferred} {n0:Nat} {D0:Nat->Prop} {ι0:Names} {w0:World} {Q:Ex->Env->ar->Prop} {Q':Exit->Act->World->Prop}
  (hQ:r6 P hs nt ds Q n0 D0 ι0 w0 Q') (hD0:¬D0 rr) (hrr:hs<=rr) (gI:bm≠rr):
  ∀(n:Nat) (left:List (List AV)) (env:Env) (σ:ar) (a:Act) (w:World) (D:Nat->Prop) (ι:Names) (seen:Array Nat),
   AM m it nx ok en id (dx (Sound P) (.seq (.ew false vE) qM)) b b1 Q n left env σ->St P hs nt D ι env σ a w->a.defers=ds->n0<=σ.next->Step hs D0 ι0 w0 D ι w->
   (∃sz C,ι id=some ⟨rr,sz,C,none⟩)->D rr->D bm->w.heap[rr]? =some (.mapIter (some bm) clock seen clock)->w.heap[bm]? =some (.map es clock)->left.length=n->Kq P w D ι m (leftOf es seen).toList left->
   oj P (HV ix ie b b1 ok Cm E5 Cl qu mv) (Exit.inBlock b Q') (n+1) a w:=by
 intro n
 induction n with
 |zero=>
  intro left env σ a w D ι seen hv dv hd FM T hid Re Ra hr hb hlen hL
  obtain⟨Jo,hq⟩:=hv
  have ha:a.tmps.getD it undef=.pointer (some ⟨rr,0,none⟩):=by
   have:=dv.env it
   rw[Jo]at this
   obtain⟨B,e,hB,_⟩:=gZ this
   obtain⟨sz,C,hid⟩:=hid
   rw[hid]at hB;injection hB with hB;subst hB
   simpa using e
  have P9:a.eval (.tmp it)=.pointer (some ⟨rr,0,none⟩):=ha
  rcases run_next_at (P:=P) w Cm.type rr bm clock clock seen es clock hr hb EG.1 (Nat.le_refl _)with⟨_,fI⟩|⟨e,he,_⟩
  rotate_left
  ·have h0:(leftOf es seen).toList=[]:=List.eq_nil_of_length_eq_zero (by rw[<-hL.len,hlen])
   rw[h0]at he;simp at he
  have Dt:nx<a.tmps.size:=by rw[dv.size];exact O.NM
  have E2:=gV (gV dv.env (HP (.eD _ _ (.bool false))) (dst:=some nx) (fun d h=>by cases h;exact O.NM) dv.size) (.eD _ _ (.bool false)) (dst:=some ok) (fun d h=>by cases h;exact O.QG) (by rw[eO];exact dv.size)
  show zd P (.seq _ _) _ a w
  refine kZ (jV (wp_region_list ?_))
  refine lR (v:=.tuple #[.bool false]) (w':=w) O.h3 (by simp[execOp,O.h1,P9,fI,Result.andThen]) ?_
  refine lR (v:=.bool false) (w':=w) O.h6 (by rw[O.h2];simp[execOp,O.h4,eval_put Dt,Instr.extract]) ?_
  rw[O.h2,O.h5]
  refine kZ (uB (t:=false) (eval_put (by rw[eO,dv.size];exact O.QG)) (jV (wp_exit ?_)))
  show Exit.inBlock b Q' (.exit b) _ _
  simp only[Exit.inBlock,if_true]
  exact hQ .normal _ ⟨σ.get,σ.next+1⟩ _ w D ι hq T ⟨dv.rQ,dv.used.next,E2,by rw[eO,eO];exact dv.size⟩ (by rw[put_defers,put_defers];exact hd) (Nat.le_succ_of_le FM)
 |succ n ih=>
  intro left env σ a w D ι seen hv dv hd FM T hid Re Ra hr hb hlen hL
  obtain⟨Jo,hq⟩:=hv
  have ha:a.tmps.getD it undef=.pointer (some ⟨rr,0,none⟩):=by
   have:=dv.env it
   rw[Jo]at this
   obtain⟨B,e,hB,_⟩:=gZ this
   obtain⟨sz,C,hid⟩:=hid
   rw[hid]at hB;injection hB with hB;subst hB
   simpa using e
  have P9:a.eval (.tmp it)=.pointer (some ⟨rr,0,none⟩):=ha
  rcases run_next_at (P:=P) w Cm.type rr bm clock clock seen es clock hr hb EG.1 (Nat.le_refl _)with⟨h0,_⟩|⟨e,he,w1,tg,fI⟩
  ·have:=hL.len
   rw[hlen,Array.length_toList]at this;omega
  obtain⟨i,hi,FK⟩:=List.getElem_of_mem he
  have OF:(leftOf es seen).toList[i]? =some e:=by rw[List.getElem?_eq_getElem hi,FK]
  have kQ:i<left.length:=by rw[hL.len];exact hi
  obtain⟨e',kv,vv,q1,q2,q3,q4,q5⟩:=hL.at_ i left[i] (List.getElem?_eq_getElem kQ)
  rw[OF]at q1;injection q1 with q1;subst q1
  replace hq:=hq i left[i] kv vv (List.getElem?_eq_getElem kQ) q2 q3
  have Sh:w1.heap[rr]? =some (.mapIter (some bm) clock seen clock):=by rcases tg with rfl|rfl<;>exact hr
  have fc:=MapKept.heap_set (o':=.mapIter (some bm) clock (seen.push e.born) clock) Sh
  obtain⟨w2,uk⟩:∃w2,ChangeMaps.setBlock w1 rr (.mapIter (some bm) clock (seen.push e.born) clock)=w2:=⟨_,rfl⟩
  have ho:∀k,k≠rr->w2.heap[k]? =w.heap[k]? :=fun k hk=>by
   rw[<-uk]
   refine(fc.2 k hk).trans ?_
   rcases tg with rfl|rfl<;>rfl
  have hz:w2.heap.size=w.heap.size:=by
   rw[<-uk]
   rcases tg with rfl|rfl<;>simp[ChangeMaps.setBlock]
  have JA:w2.heap[rr]? =some (.mapIter (some bm) clock (seen.push e.born) clock):=by rw[<-uk];exact fc.1
  have vW:w2.os=w.os/\w2.tape=w.tape/\w2.output=w.output:=by
   rw[<-uk]
   rcases tg with rfl|rfl<;>exact⟨rfl,rfl,rfl⟩
  rw[uk]at fI
  clear uk fc
  have I1:lU w rr:=⟨_,_,_,_,hr⟩
  have I2:lU w2 rr:=⟨_,_,_,_,JA⟩
  have rt:∀{a v},cu P w D ι a v->cu P w2 D ι a v:=xb I1 I2 ho
  have S2:=dv.rQ.iter I1 I2 ho hz
  have T2:Step hs D0 ι0 w0 D ι w2:=⟨⟨vW.1.trans T.below.os,vW.2.1.trans T.below.tape,vW.2.2.trans T.below.output,by rw[hz];exact T.below.size,fun k hk=>(ho k (by omega)).trans (T.below.block k hk)⟩,fun k hk=>(ho k (fun hc=>hD0 (hc▸hk))).trans (T.pB k hk),T.dead,T.names,T.new⟩
  have GK:w2.heap[bm]? =some (.map es clock):=(ho bm gI).trans hb
  have Dt:nx<a.tmps.size:=by rw[dv.size];exact O.NM
  have E1:bJ P w2 D ι env a:=fun t=>rt (dv.env t)
  have E2:=gV (gV E1 (HR (.eD _ _ (.bool true)) (rt q4) (rt q5)) (dst:=some nx) (fun d h=>by cases h;exact O.NM) dv.size) (.eD _ _ (.bool true)) (dst:=some ok) (fun d h=>by cases h;exact O.QG) (by rw[eO];exact dv.size)
  have E3:=gV E2 (HQ (rt q4) (rt q5)) (dst:=some en) (fun d h=>by cases h;exact O.lt3) (by rw[eO,eO];exact dv.size)
  have KF:=run_entry_at (P:=P) w2 rr bm clock seen es clock e JA GK (mem_left he).1 EG.2
  show zd P (.seq _ _) _ a w
  refine kZ (jV (wp_region_list ?_))
  refine lR (v:=.tuple #[.bool true,e.key,e.val]) (w':=w2) O.h3 (by simp[execOp,O.h1,P9,fI,Result.andThen]) ?_
  refine lR (v:=.bool true) (w':=w2) O.h6 (by rw[O.h2];simp[execOp,O.h4,eval_put Dt,Instr.extract]) ?_
  rw[O.h2,O.h5]
  refine kZ (uB (t:=true) (eval_put (by rw[eO,dv.size];exact O.QG)) (jV (wp_skip ?_)))
  refine rL (kZ (jV (wp_region_list ?_)))
  show wpList P _ _ (Cl::qu) _ _
  have ha3:(((a.put (some nx) (.tuple #[.bool true,e.key,e.val])).put (some ok) (.bool true)).eval (.tmp it))=.pointer (some ⟨rr,0,none⟩):=by
   have n1:=O.ne1
   have n2:=O.ne2
   rw[<-P9]
   simp[Act.put,Act.eval,Array.getD_eq_getD_getElem?,Array.getElem?_setIfInBounds,Ne.symm n1,Ne.symm n2]
  refine lR (v:=.tuple #[e.key,e.val]) (w':=w2) O.h9 (by simp[execOp,O.h7,ha3,KF,Result.andThen]) ?_
  rw[O.h8]
  refine xn qu vE 1 _ ⟨σ.get,σ.next+1⟩ _ w2 D ι (fun _=>False) O.hE hq S2 dv.used.next (fun _ h=>h.elim) E3 (by rw[eO,eO,eO];exact dv.size) fun Q3 σ3 a3 w3 D3 ι3 hk T3 St3 Oq RT=>?_
  refine pc hm mv qM O.hR _ Q3 σ3 a3 w3 D3 ι3 _ hk St3 fun ex Gu σ4 a4 w4 D4 ι4 G4 T4 QT Ot RU=>?_
  have RA:a4.defers=ds:=by rw[Ot,Oq,put_defers,put_defers,put_defers];exact hd
  have R5:n0<=σ4.next:=Nat.le_trans FM (Nat.le_trans (Nat.le_succ _) (Nat.le_trans RT RU))
  have Lg:=T3.trans T4
  have TT:=T2.trans Lg
  have sE:AM m it nx ok en id (dx (Sound P) (.seq (.ew false vE) qM)) b b1 Q n (left.eraseIdx i) Gu σ4->oj P (HV ix ie b b1 ok Cm E5 Cl qu mv) (Exit.inBlock b Q') (n+1) a4 w4:=fun hq5=>by
   refine ih (left.eraseIdx i) Gu σ4 a4 w4 D4 ι4 (seen.push e.born) hq5 QT RA R5 TT ?_ (Lg.dead _ Re) (Lg.dead _ Ra) ((Lg.pB _ Re).trans JA) ((Lg.pB _ Ra).trans GK) ?_ ?_
   ·obtain⟨sz,C,hid⟩:=hid;exact⟨sz,C,Lg.names _ _ hid⟩
   ·rw[List.length_eraseIdx,if_pos kQ,hlen];rfl
   ·rw[Ch EG OF]
    exact(hL.erase hi).rep fun hr=>Lg.rep (rt hr)
  have out:∀ex,ex≠.normal->Q ex Gu σ4->Q' (PV ex) a4 w4:=fun ex _ h=>hQ ex Gu σ4 a4 w4 D4 ι4 h TT QT RA R5
  cases ex with
  |normal=>exact sE G4
  |ret=>exact out .ret (by simp) G4
  |exit jB=>
   simp only[aU]at G4
   simp only[PV,Exit.inBlock]
   by_cases h1:jB=b1
   ·rw[if_pos h1]at G4 ⊢
    exact sE G4
   ·rw[if_neg h1]at G4 ⊢
    simp only[dd,aU]at G4
    show Exit.inBlock b Q' (.exit jB) a4 w4
    simp only[Exit.inBlock]
    by_cases h2:jB=b
    ·rw[if_pos h2]at G4 ⊢
     exact hQ .normal Gu σ4 a4 w4 D4 ι4 G4 TT QT RA R5
    ·rw[if_neg h2]at G4 ⊢
     exact out (.exit jB) (by simp) G4
def CS (P:Program) (nt:Nat) (c:Code) (W:(Ex->Env->ar->Prop)->Env->ar->Prop):Prop:=
 ∀(hs:Nat) (Q:Ex->Env->ar->Prop) (env:Env) (σ:ar) (a:Act) (w:World) (D:Nat->Prop) (ι:Names) (Q':Exit->Act->World->Prop),W Q env σ->St P hs nt D ι env σ a w->r6 P hs nt a.defers Q σ.next D ι w Q'->zd P c Q' a w
theorem CS.code (hm:P.follows .mixedOrders=true) {md:List (Nat×Nat)} {nt fid:Nat} {c:Code} {vc:VC} (h:iU P md nt fid c=some vc):CS P nt c (dx (Sound P) vc):=
 fun _ Q env σ a w D ι Q' hv dv hQ=>pc hm c vc h Q env σ a w D ι Q' hv dv hQ
theorem CS.seq {nt:Nat} {x y:Code} {V W:(Ex->Env->ar->Prop)->Env->ar->Prop} (h:CS P nt x V) (k:CS P nt y W):CS P nt (.seq x y) (fun Q=>V (dd (W Q) Q)):=fun hs Q env σ a w D ι Q' hv dv hQ=>by
 refine kZ (h hs _ env σ a w D ι _ hv dv fun ex iN σ1 a1 w1 D1 ι1 hq T jL hd hle=>?_)
 cases ex with
 |normal=>exact k hs Q iN σ1 a1 w1 D1 ι1 Q' hq jL (by rw[hd];exact hQ.later T hle)
 |exit id=>exact hQ (.exit id) iN σ1 a1 w1 D1 ι1 hq T jL hd hle
 |ret=>exact hQ .ret iN σ1 a1 w1 D1 ι1 hq T jL hd hle
theorem CS.rng (hm:P.follows .mixedOrders=true) {md:List (Nat×Nat)} {nt fid s0 sA site ia ix ie b b1 it nx ok en:Nat} {m:MK} {Cm E5 Cl Cp:Oper} {HJ qu:List Oper} {mv:Code} {vA vE:List aT} {qM:VC} {t k e:TypeId} {tm:Operand} {tm':O}
  (O:F4 P md nt fid s0 it nx ok en Cm E5 Cl qu mv vE qM) (h1:Cp.op=.range t tm) (h2:Cp.dst=some it) (h3:Cp.guard=none) (dE:it<nt) (ht:P.underlying t=some (.map k e)) (OX:cO P tm=some tm') (hA:allM (j9 P (HJ++[Cp]).toArray nt sA false false #[] []) HJ 0=some vA):
  CS P nt (.seq (.region ia (HJ++[Cp]).toArray false) (.block b (.loop (HV ix ie b b1 ok Cm E5 Cl qu mv))))
   (fun Q=>wpOps (Sound P) false vA (Fh m tm' site it nx ok en (dx (Sound P) (.seq (.ew false vE) qM)) b b1 Q)):=fun hs Q env σ a w D ι Q' hv dv hQ=>by
 refine kZ (jV (wp_region_list ?_))
 show wpList P _ _ (HJ++[Cp]) a w
 refine uD [Cp] HJ vA 0 env σ a w D ι (fun _=>False) hA hv dv.rQ dv.used (fun _ h=>h.elim) dv.env dv.size fun iN σ1 a1 w1 D1 ι1 hk T qT td ED=>?_
 obtain⟨id,r,hid,hg,hw,hr⟩:=hk
 have gr:=db qT.env OX
 rw[hid]at gr
 obtain⟨B,hv,hB,hk⟩:=DL gr
 obtain⟨B',dr,R,jS,oe⟩:=qT.rQ.row id r hg
 rw[hB]at dr;injection dr with dr;subst dr
 obtain⟨hrsz,es,clock,hb,eW,⟨hlen,EG⟩,hM⟩:=R.map m hk
 have PX:=R.lt
 have fI:=run_range_map (P:=P) w1 t k e B.b es clock ht hb
 refine lR (v:=.pointer (some ⟨w1.heap.size,0,none⟩)) (w':=w1.alloc (.mapIter (some B.b) clock #[] clock)) h3 (by simp[execOp,h1,hv,fI,Result.andThen]) ?_
 rw[h2]
 obtain⟨w2,uk⟩:∃w2,w1.alloc (.mapIter (some B.b) clock #[] clock)=w2:=⟨_,rfl⟩
 have hblk:∀b,b<w1.heap.size->w2.heap[b]? =w1.heap[b]? :=fun b hb=>by rw[<-uk];exact Below.heap_alloc _ _ _ hb
 have jT:w2.heap[w1.heap.size]? =some (.mapIter (some B.b) clock #[] clock):=by rw[<-uk];exact heap_alloc_new _ _
 have hz:w2.heap.size=w1.heap.size+1:=by rw[<-uk];simp
 have vW:w2.os=w1.os/\w2.tape=w1.tape/\w2.output=w1.output:=by rw[<-uk];exact⟨rfl,rfl,rfl⟩
 rw[uk]
 clear uk fI
 let D2:Nat->Prop:=fun x=>D1 x∨x=B.b∨x=w1.heap.size
 let ι2:Names:=j4 ι1 ⟨site,σ1.next⟩ ⟨w1.heap.size,1,0,none⟩
 have js:ι1 ⟨site,σ1.next⟩=none:=fresh qT.used (fun h=>h)
 have Qx:∀{a v},cu P w1 D1 ι1 a v->cu P w2 D2 ι2 a v:=fun h=>h.frame (fun b hd=>hblk b (qT.rQ.dead b hd)) (fun _ h=>.inl h) (eR js)
 have xl:∀{j q C},σ1.get j=some q->ι2 j=some C->ι1 j=some C:=fun {j q C} hj hC=>by
  obtain⟨C',sR,_⟩:=qT.rQ.row j q hj
  have:=eR (B:=⟨w1.heap.size,1,0,none⟩) js j C' sR
  have e:=this.symm.trans hC
  injection e with e;rw[<-e];exact sR
 have lt:∀{j q C},σ1.get j=some q->ι1 j=some C->C.b<w1.heap.size:=fun {j q C} hj hC=>by
  obtain⟨C',sR,R',_⟩:=qT.rQ.row j q hj
  rw[hC]at sR;injection sR with sR;subst sR
  exact R'.lt
 have LF:∀{j q},bj σ1.get id {r with w:=false} j=some q->∃q0,σ1.get j=some q0/\(q.w=true->q=q0/\j≠id)/\(j=id->q={r with w:=false}/\q0=r)/\(j≠id->q=q0):=fun {j q} h=>by
  unfold bj at h
  split at h
  ·rename_i e
   injection h with h;subst h
   exact⟨r,e▸hg,fun h=>(by cases h),fun _=>⟨rfl,rfl⟩,fun hc=>absurd e hc⟩
  ·rename_i e
   exact⟨q,h,fun _=>⟨rfl,e⟩,fun hc=>absurd hc e,fun _=>rfl⟩
 have S2:fR P hs D2 ι2 (bj σ1.get id {r with w:=false}) w2:=by
  refine⟨by rw[hz];exact Nat.le_succ_of_le qT.rQ.lo,fun b hb=>?_,fun j q h=>?_,fun j j' q q' C C' h h' G5 hC sR he=>?_⟩
  ·rw[hz]
   rcases hb with hb|rfl|rfl
   ·exact Nat.lt_succ_of_lt (qT.rQ.dead b hb)
   ·exact Nat.lt_succ_of_lt PX
   ·exact Nat.lt_succ_self _
  ·obtain⟨q0,KL,G5,yg,gI⟩:=LF h
   obtain⟨C,hC,RC,k1,k2⟩:=qT.rQ.row j q0 KL
   have hCl:=lt KL hC
   refine⟨C,eR js j C hC,?_,fun NG=>k1 ((G5 NG).1▸NG),fun NG hD=>?_⟩
   ·have RF:gu P w2 D2 ι2 C q0:=RC.frame (hblk _ hCl) fun a v h=>Qx h
    by_cases hj:j=id
    ·obtain⟨e1,e2⟩:=yg hj
     rw[e1,<-e2];exact RF.flag false
    ·rw[gI hj];exact RF
   ·obtain⟨e1,e2⟩:=G5 NG
    rcases hD with hD|hD|hD
    ·exact k2 (e1▸NG) hD
    ·exact e2 (qT.rQ.inj j id q0 r C B KL hg (e1▸NG) hC hB hD)
    ·omega
  ·obtain⟨q0,KL,Sf,_⟩:=LF h
   obtain⟨q0',OP,_⟩:=LF h'
   exact qT.rQ.inj j j' q0 q0' C C' KL OP ((Sf G5).1▸G5) (xl KL hC) (xl OP sR) he
 have T2:Step hs D1 ι1 w1 D2 ι2 w2:=⟨⟨vW.1,vW.2.1,vW.2.2,by omega,fun k hk=>hblk k (Nat.lt_of_lt_of_le hk qT.rQ.lo)⟩,fun b hb=>hblk b (qT.rQ.dead b hb),fun _ h=>.inl h,eR js,fun b hb=>by
  rcases hb with hb|rfl|rfl
  ·exact .inl hb
  ·exact .inr (jS hw)
  ·exact .inr qT.rQ.lo⟩
 have E2:bJ P w2 D2 ι2 (upd iN (some it) (.ptr ⟨site,σ1.next⟩ 0 0)) (a1.put (some it) (.pointer (some ⟨w1.heap.size,0,none⟩))):=
  gV (fun t=>Qx (qT.env t)) (by have:=cu.ptr (P:=P) (w:=w2) (D:=D2) (ι:=ι2) ⟨site,σ1.next⟩ 0 0 ⟨w1.heap.size,1,0,none⟩ (dJ _ _ _) rfl;simpa using this) (fun d h=>by cases h;exact dE) qT.size
 have L2:Kq P w2 D2 ι2 m (leftOf es #[]).toList r.rows:=by
  have he:(leftOf es #[]).toList=es.toList:=by simp[leftOf]
  rw[he]
  refine⟨by simpa using eW.symm,fun i cs hi=>?_⟩
  obtain⟨N4,kv,vv,q1,q2,q3,q4,q5⟩:=hM i cs hi
  exact⟨N4,kv,vv,by simpa using q1,q2,q3,Qx q4,Qx q5⟩
 show zd P (.block b (.loop (HV ix ie b b1 ok Cm E5 Cl qu mv))) Q' _ w2
 exact rL (AD (r.rows.length+1) (Cw hm O EG (ds:=a.defers) (n0:=σ.next) (D0:=D) (ι0:=ι) (w0:=w) hQ
  (fun hc=>by have:=dv.rQ.dead _ hc;have:=T.below.size;omega) qT.rQ.lo (by omega) r.rows.length r.rows _ ⟨bj σ1.get id {r with w:=false},σ1.next+1⟩ _ w2 D2 ι2 #[] hr
  ⟨S2,qT.used.upd.next,E2,by rw[eO];exact qT.size⟩ (by rw[put_defers];exact td) (Nat.le_succ_of_le ED) (T.trans T2) ⟨1,0,dJ _ _ _⟩ (.inr (.inr rfl)) (.inr (.inl rfl)) jT ((hblk _ PX).trans hb) rfl L2))
theorem CS.fn {f:Nat} {fn:Func} {c:Code} {args:List AV} {σ:ar} {K:AV->ar->Prop} {vr:List mE} {W:(Ex->Env->ar->Prop)->Env->ar->Prop} (Nu:P.funcs[f]? =some fn) (hc:fn.body=some c) (hr:fn.results.toList.mapM (BA P)=some vr) (ha:fn.params.size+fn.nfree=args.length) (hle:fn.params.size+fn.nfree<=fn.ntmps)
  (h:CS P fn.ntmps c W) (hv:W (j0 vr K) (cj args) σ):Call P f args σ K:=
 gw (tE Nu hc hr ha hle fun hs w D ι a Q' dv hQ=>h hs (j0 vr K) (cj args) σ a w D ι Q' hv dv hQ)
theorem qN (hm:P.follows .mixedOrders=true) {c:VC} {Q Q':Ex->Env->ar->Prop} {env:Env} {σ:ar} (hQ:∀x e s,Q x e s->Q' x e s) (h:dx (Call P) c Q env σ):dx (Sound P) c Q' env σ:=
 jc (fun _ _ _ _ h=>fP hm h) j8 c Q Q' env σ hQ h
theorem xx {m:MK} {it nx ok en:Nat} {id:Id} {B B':(Ex->Env->ar->Prop)->Env->ar->Prop} {b b1:Nat} {Q Q':Ex->Env->ar->Prop} (hB:∀R R' e s,(∀x e s,R x e s->R' x e s)->B R e s->B' R' e s) (hQ:∀x e s,Q x e s->Q' x e s):
  ∀(n:Nat) (left:List (List AV)) (env:Env) (σ:ar),AM m it nx ok en id B b b1 Q n left env σ->AM m it nx ok en id B' b b1 Q' n left env σ
 |0,_,env,σ,h=>⟨h.1,hQ _ _ _ h.2⟩
 |n+1,left,env,σ,h=>⟨h.1,fun i cs kv vv h1 h2 h3=>hB _ _ _ _ (fun x e s hx=>by
  have hn:=xx (id:=id) (m:=m) (it:=it) (nx:=nx) (ok:=ok) (en:=en) (b:=b) (b1:=b1) hB hQ n (left.eraseIdx i) e s
  cases x with
  |normal=>exact hn hx
  |ret=>exact hQ _ _ _ hx
  |exit jB=>
   simp only[aU]at hx ⊢
   split at hx
   ·rename_i h1;rw[if_pos h1];exact hn hx
   ·rename_i h1
    rw[if_neg h1]
    simp only[dd,aU]at hx ⊢
    split at hx
    ·rename_i h2;rw[if_pos h2];exact hQ _ _ _ hx
    ·rename_i h2;rw[if_neg h2];exact hQ _ _ _ hx) (h.2 i cs kv vv h1 h2 h3)⟩
theorem Fi (hm:P.follows .mixedOrders=true) {m:MK} {tm:O} {site it nx ok en:Nat} {c:VC} {b b1:Nat} {Q Q':Ex->Env->ar->Prop} {env:Env} {σ:ar} (hQ:∀x e s,Q x e s->Q' x e s) (h:Fh m tm site it nx ok en (dx (Call P) c) b b1 Q env σ):Fh m tm site it nx ok en (dx (Sound P) c) b b1 Q' env σ:=by
 obtain⟨id,r,h1,h2,h3,h4⟩:=h
 exact⟨id,r,h1,h2,h3,xx (B':=dx (Sound P) c) (fun R R' e s hR hb=>qN hm hR hb) hQ _ _ _ _ h4⟩
theorem uF {α:Type}:∀{l:List α} {i:Nat} {x:α},l[i]? =some x->(x::l.eraseIdx i).Perm l
 |y::l,0,x,h=>by simp at h;subst h;exact List.Perm.refl _
 |y::l,i+1,x,h=>by
  simp only[List.getElem?_cons_succ]at h
  rw[List.eraseIdx_cons_succ]
  exact(List.Perm.swap _ _ _).trans ((uF h).cons _)
theorem Pz {m:MK} {tm:O} {site it nx ok en:Nat} {c:VC} {b b1:Nat} {Q:Ex->Env->ar->Prop} {env:Env} {σ:ar} {id:Id} {r:Row} (I:List (List AV)->Env->ar->Prop) (h1:cF env tm=.map id m) (h2:σ.get id=some r) (h3:r.w=true) (Jo:([nx,ok,en]++wv c).contains it=false)
  (h0:I [] (upd env (some it) (.ptr ⟨site,σ.next⟩ 0 0)) ⟨bj σ.get id {r with w:=false},σ.next+1⟩)
  (step:∀pre cs rest e s kv vv,(pre++cs::rest).Perm r.rows->I pre e s->gh ([nx,ok,en]++wv c) (upd env (some it) (.ptr ⟨site,σ.next⟩ 0 0)) e->part m.ka m.ks cs=some kv->cs[m.ks]? =some vv->
   dx (Call P) c (aU b1 (dd (I (pre++[cs])) (aU b Q))) (upd (upd (upd e (some nx) (.gn [.bool true,kv,vv])) (some ok) (.bool true)) (some en) (.gn [kv,vv])) ⟨s.get,s.next+1⟩)
  (fin:∀pre e s,pre.Perm r.rows->I pre e s->gh ([nx,ok,en]++wv c) (upd env (some it) (.ptr ⟨site,σ.next⟩ 0 0)) e->Q .normal (upd (upd e (some nx) (.gn [.bool false])) (some ok) (.bool false)) ⟨s.get,s.next+1⟩):
  Fh m tm site it nx ok en (dx (Call P) c) b b1 Q env σ:=by
 refine⟨id,r,h1,h2,h3,?_⟩
 have Ou:∀e,gh ([nx,ok,en]++wv c) (upd env (some it) (.ptr ⟨site,σ.next⟩ 0 0)) e->e it=.ptr ⟨site,σ.next⟩ 0 0:=fun e h=>by
  rw[h it Jo];simp[upd]
 have key:∀n left pre e s,(pre++left).Perm r.rows->left.length=n->I pre e s->gh ([nx,ok,en]++wv c) (upd env (some it) (.ptr ⟨site,σ.next⟩ 0 0)) e->AM m it nx ok en ⟨site,σ.next⟩ (dx (Call P) c) b b1 Q n left e s:=by
  intro n
  induction n with
  |zero=>
   intro left pre e s hp hl hI hK
   have:left=[]:=List.eq_nil_of_length_eq_zero hl
   subst this
   rw[List.append_nil]at hp
   exact⟨Ou e hK,fin pre e s hp hI hK⟩
  |succ n ih=>
   intro left pre e s hp hl hI hK
   refine⟨Ou e hK,fun i cs kv vv hi hk hv=>?_⟩
   have kQ:=(List.getElem?_eq_some_iff.1 hi).1
   have Dq:(cs::left.eraseIdx i).Perm left:=by
    exact uF hi
   have G1:(pre++cs::left.eraseIdx i).Perm r.rows:=(Dq.append_left pre).trans hp
   have LS:gh ([nx,ok,en]++wv c) (upd env (some it) (.ptr ⟨site,σ.next⟩ 0 0)) (upd (upd (upd e (some nx) (.gn [.bool true,kv,vv])) (some ok) (.bool true)) (some en) (.gn [kv,vv])):=
    ((hK.upd (fun t h=>by cases h;simp)).upd (fun t h=>by cases h;simp)).upd (fun t h=>by cases h;simp)
   refine jc (fun _ _ _ _ h=>h) bp c _ _ _ _ (fun x e' s' hx=>?_) (xG c _ _ _ (fun t ht=>List.mem_append_right _ ht) LS (step pre cs (left.eraseIdx i) e s kv vv G1 hI hK hk hv))
   obtain⟨hx,EC⟩:=hx
   have sE:I (pre++[cs]) e' s'->AM m it nx ok en ⟨site,σ.next⟩ (dx (Call P) c) b b1 Q n (left.eraseIdx i) e' s':=fun Rk=>
    ih (left.eraseIdx i) (pre++[cs]) e' s' (by rw[List.append_assoc];exact G1) (by rw[List.length_eraseIdx,if_pos kQ];omega) Rk EC
   cases x with
   |normal=>exact sE hx
   |ret=>exact hx
   |exit jB=>
    simp only[aU]at hx ⊢
    split at hx
    ·rename_i h1;rw[if_pos h1];exact sE hx
    ·rename_i h1;rw[if_neg h1];exact hx
 exact key _ r.rows [] _ _ (List.Perm.refl _) rfl h0 (gh.refl _ _)
end Go.Proofs.YtgoelphibofcmaaGreat.V

namespace Go.Proofs.YtgoelphibofcmaaGreat.V
open Go.RowKit
def K6:Code->Code
 | .seq a _=>a
 |c=>c
def FR:Code->Code
 | .seq _ b=>b
 |c=>c
def QO:Code->Code
 | .block _ c=>c
 |c=>c
def SF:Code->Code
 | .loop c=>c
 |c=>c
def PQ:Code->List Oper
 | .region _ o _=>o.toList
 |_=>[]
def rg2 (k:Code):Code:=K6 (K6 (FR (FR k)))
def SA (k:Code):Code:=FR (K6 (FR (FR k)))
def rgL (k:Code):Code:=SF (QO (SA k))
def ME (k:Code):Code:=FR (FR (rgL k))
def Nh:Oper:={dst:=none,op:=.nilCheck (.tmp 0),type:=0,pos:= "",after:= #[],guard:=none}
def rgP (k:Code):List Oper:=(PQ (rg2 k)).dropLast
def rgO (k:Code):Oper:=(PQ (rg2 k)).getLastD Nh
def QI (k:Code) (i:Nat):Oper:=(PQ (K6 (rgL k))).getD i Nh
def Pt (k:Code):Oper:=(PQ (K6 (QO (ME k)))).headD Nh
def Pu (k:Code):List Oper:=(PQ (K6 (QO (ME k)))).tail
def rgR (k:Code):Code:=FR (QO (ME k))
def Pv (P:Program) (v0 v1:VC) (vA:List aT) (m:MK) (tm:O) (site it nx ok en:Nat) (vE:List aT) (vR:VC) (b b1:Nat) (vT:VC) (Q:Ex->Env->ar->Prop):Env->ar->Prop:=
 dx (Sound P) v0 (dd (dx (Sound P) v1 (dd (wpOps (Sound P) false vA (Fh m tm site it nx ok en (dx (Sound P) (.seq (.ew false vE) vR)) b b1 (dd (dx (Sound P) vT Q) Q))) Q)) Q)
def MF (P:Program) (v0 v1:VC) (vA:List aT) (m:MK) (tm:O) (site it nx ok en:Nat) (vE:List aT) (vR:VC) (b b1:Nat) (vT:VC) (Q:Ex->Env->ar->Prop):Env->ar->Prop:=
 dx (Call P) v0 (dd (dx (Call P) v1 (dd (wpOps (Call P) false vA (Fh m tm site it nx ok en (dx (Call P) (.seq (.ew false vE) vR)) b b1 (dd (dx (Call P) vT Q) Q))) Q)) Q)
theorem uS {F F':Env->ar->Prop} {Q:Ex->Env->ar->Prop} (h:∀e s,F e s->F' e s):∀x e s,dd F Q x e s->dd F' Q x e s:=fun x e s hx=>by
 cases x with
 |normal=>exact h e s hx
 |ret=>exact hx
 |exit id=>exact hx
theorem HW {P:Program} (hm:P.follows .mixedOrders=true) {v0 v1:VC} {vA:List aT} {m:MK} {tm:O} {site it nx ok en:Nat} {vE:List aT} {vR:VC} {b b1:Nat} {vT:VC} {Q:Ex->Env->ar->Prop} {env:Env} {σ:ar}
  (h:MF P v0 v1 vA m tm site it nx ok en vE vR b b1 vT Q env σ):Pv P v0 v1 vA m tm site it nx ok en vE vR b b1 vT Q env σ:=
 qN hm (uS fun _ _ h=>qN hm (uS fun _ _ h=>kC (fun _ _ _ _ h=>fP hm h) j8 (fun _ _ h=>Fi hm (uS fun _ _ h=>qN hm (fun _ _ _ h=>h) h) h) _ _ _ h) h) h
end Go.Proofs.YtgoelphibofcmaaGreat.V

namespace Go.Proofs.YtgoelphibofcmaaGreat.V
open Go.RowKit
noncomputable def nJ:Go.Code:=Tryz.f135.body.getD .skip
def CV:VC:=(.ew false [⟨(some 2),(.new [.b4]),none,135000000,[]⟩])
def Ip:VC:=(.ew false [⟨(some 3),(.dc (.k .b4)),none,135001000,[]⟩])
def Iq:List aT:=[⟨(some 6),(.dc (.t 0)),none,135002000,[]⟩,⟨(some 7),(.zf (.t 6)),none,135002001,[]⟩,⟨(some 8),(.fB 4 (.t 7)),none,135002002,[]⟩,⟨(some 9),(.load false 1 (.t 8)),none,135002003,[]⟩]
def yX:List aT:=[⟨(some 14),(.extract 0 (.t 13)),none,135004001,[]⟩,⟨(some 15),(.extract 1 (.t 13)),none,135004002,[]⟩,⟨(some 4),(.new [(.int .i64 0),(.int .i64 0)]),none,135004003,[]⟩,⟨none,(.store 2 (.t 4) (.t 14)),none,135004004,[]⟩,⟨(some 5),(.dc (.t 15)),none,135004005,[]⟩]
def yY:VC:=(.ew false [⟨(some 16),(.dc (.t 3)),none,135005000,[]⟩,⟨(some 17),(.load true 2 (.t 4)),none,135005001,[]⟩,⟨(some 18),(.dc (.t 5)),none,135005002,[]⟩,⟨(some 19),(.build [(.int .i64 0),(.int .i64 0),(.int .i64 0)] [(0,(2,(.t 17))),(2,(1,(.t 18)))]),none,135005003,[]⟩,⟨(some 20),(.lf 3 1 [(.t 19)]),none,135005004,[]⟩,⟨(some 21),(.append 3 (.t 16) (.t 20)),none,135005005,[]⟩,⟨(some 3),(.dc (.t 21)),none,135005006,[]⟩])
def yZ:VC:=(.seq (.ew false [⟨(some 22),(.dc (.t 3)),none,135006000,[]⟩,⟨(some 23),(.call 180 [(.t 22)]),none,135006001,[]⟩,⟨none,(.store 1 (.t 2) (.t 23)),none,135006002,[]⟩]) .ret)
def y5:List mE:=[(.cell true 1 2)]
def CP:O:=(.t 9)
theorem Mx:F4 Tryz.prog [] Tryz.f135.ntmps 135 135004000 10 11 12 13 (QI nJ 0) (QI nJ 1) (Pt nJ) (Pu nJ) (rgR nJ) yX yY:=⟨by kernel_rfl,by kernel_rfl,by kernel_rfl,by kernel_rfl,by kernel_rfl,by kernel_rfl,by kernel_rfl,by kernel_rfl,by kernel_rfl,by decide,by decide,by decide,by decide,by decide,by kernel_rfl,by kernel_rfl⟩
theorem MH:nJ=.seq (K6 nJ) (.seq (K6 (FR nJ)) (.seq (.seq (.region 2 (rgP nJ++[rgO nJ]).toArray false) (.block 0 (.loop (HV 3 4 0 1 12 (QI nJ 0) (QI nJ 1) (Pt nJ) (Pu nJ) (rgR nJ))))) (FR (FR (FR nJ))))):=by kernel_rfl
theorem Lt (m:MK):CS Tryz.prog Tryz.f135.ntmps nJ (Pv Tryz.prog CV Ip Iq m CP 135002999 10 11 12 13 yX yY 0 1 yZ):=by
 rw[MH]
 exact CS.seq (CS.code (md:=[]) (fid:=135) mixed (by kernel_rfl)) (CS.seq (CS.code (md:=[]) (fid:=135) mixed (by kernel_rfl)) (CS.seq (CS.rng (tm:=.tmp 9) (sA:=135002000) (t:=107) (k:=50) (e:=2) mixed Mx (by kernel_rfl) (by kernel_rfl) (by kernel_rfl) (by decide) (by kernel_rfl) (by kernel_rfl) (by kernel_rfl)) (CS.code (md:=[]) (fid:=135) mixed (by kernel_rfl))))
theorem MD {args:List AV} {σ:ar} {K:AV->ar->Prop} (ha:args.length=Tryz.f135.params.size) (m:MK) (h:MF Tryz.prog CV Ip Iq m CP 135002999 10 11 12 13 yX yY 0 1 yZ (j0 y5 K) (cj args) σ):Call Tryz.prog 135 args σ K:=
 CS.fn Tryz.func135 (by kernel_rfl) (by kernel_rfl) ha.symm (by decide) (Lt m) (HW mixed h)
end Go.Proofs.YtgoelphibofcmaaGreat.V
