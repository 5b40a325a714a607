/- The reference's networks: one is made. -/
import Derived.Test.YtgoljkjaameagaaGreatSyC
import Derived.Test.YtgoljkjaameagaaGreatSyB
import Derived.Test.YtgoljkjaameagaaGreatChecked
import Derived.Maps.RangeRun
import Derived.RangeFuncCalls
import Derived.OrdersIn
set_option linter.unusedVariables false
set_option linter.unusedSimpArgs false
set_option maxRecDepth 100000
set_option maxHeartbeats 16000000
namespace Go.Proofs.YtgoljkjaameagaaGreat.V
open Go.RowKit
attribute [local irreducible] ej wpOps fQ Call
attribute [local go_sem] aH fq eD fH fG cV upd bZ K.av cC AV.cells AV.cell rowOf rowsOf part ld rowAt bK bR du dQ gE bB cR eb fF eL dh dV cP cN dD dE bF aT cG bE cI cH dS dW dU cF bJ cQ dR bD aJ cK cm gD bd cz bG aP dn aX dv AV.undef bj bx dG dO dz dF cu ea ei ck dY dX cJ cL List.getD_cons_zero List.getD_cons_succ List.getD_nil List.all_cons List.all_nil Bool.and_true Bool.true_and Bool.and_self Bool.not_true Bool.not_false Option.map_some Option.map_none Option.bind_some Option.bind_none List.length_cons List.length_nil List.take_succ_cons List.take_zero List.take_nil List.drop_succ_cons List.drop_zero List.drop_nil List.head?_cons List.map_cons List.map_nil List.getElem?_cons_zero List.getElem?_cons_succ List.cons_append List.nil_append List.append_nil List.length_map List.set_cons_zero List.set_cons_succ Nat.reduceMul eq_self Int.toNat_natCast Int.natCast_nonneg and_self true_and and_true decide_true decide_false Bool.false_eq_true Nat.zero_add Nat.add_zero List.contains_cons List.contains_nil Bool.or_false Bool.false_or beq_self_eq_true Nat.reduceBEq ne_eq not_true_eq_false not_false_eq_true Id.mk.injEq false_and and_false Nat.reduceLT Int.reduceLE Int.reduceLT Int.reduceToNat Int.reduceNeg Int.reduceAdd Nat.le_refl List.length_append beq_true beq_false Bool.not_eq_eq_eq_not or_false false_or eo aj ar aK aV bp bW aQ aZ aN aU cD bI
theorem HK (cnt:Nat) (hn:cnt<=1048576) (bs:List PB) (ok:ml cnt bs) (mM:bs.length<=1048576) (σ:ax):
  Call Tryz.prog 251 [.int .i64 cnt,.sl (bs.map ay)] σ fun r σ'=>∃X A F,r=.ptr X 0 0/\σ.next<=X.bt/\nf cnt bs (fun _=>0) X A F σ'.get σ'.next:=by
 refine Gs LU rfl fun hl=>?_
 try simp only[q]
 clear hl
 have jk:(0:Int)<=(cnt:Int):=by omega
 have oA:(cnt:Int)<=((16777216:Nat):Int):=by omega
 have wD:(0:Int)<=(bs.length:Int):=by omega
 have DN:(bs.length:Int)<=((16777216:Nat):Int):=by omega
 have hz:List.replicate bs.length [AV.int .i64 0]=dP (fun _=>0) bs.length:=by
  refine List.ext_getElem? fun i=>?_
  by_cases h:i<bs.length
  ·rw[dH h,List.getElem?_replicate,if_pos h];rfl
  ·rw[List.getElem?_eq_none (by simp;omega),List.getElem?_eq_none (by rw[dw];omega)]
 (try((repeat(revert hN;revert N;apply Pn.out));refine wk (tw @jk (tw @oA (tw @wD (tw @DN (tw @Int.le_refl @hz))))) ?_;(repeat(refine Pn.mk ?_;intro N hN))))
 obtain⟨X,hX⟩:∃X:Id,X=⟨251001003,σ.next+1⟩:=⟨_,rfl⟩
 obtain⟨A,hA⟩:∃X:Id,X=⟨251002002,σ.next+1+1⟩:=⟨_,rfl⟩
 obtain⟨F,hF⟩:∃X:Id,X=⟨251003003,σ.next+1+1+1⟩:=⟨_,rfl⟩
 have hXA:X.bt<A.bt:=by rw[hX,hA];(try dsimp only);omega
 have hAF:A.bt<F.bt:=by rw[hA,hF];(try dsimp only);omega
 have hXs:σ.next<=X.bt:=by rw[hX];(try dsimp only);omega
 refine aM (fun n env st=>∃j:Nat,n=(bs.length)-j/\j<=(bs.length)/\env 6=.int .i64 (j:Int)/\env 5=(.ptr X 0 0)/\st.get X=some ⟨true,4,[br cnt bs A F]⟩/\st.get F=some ⟨true,1,dP (fun _=>0) bs.length⟩/\(pM A F.bt (kR cnt bs j) st.get st.next/\F.bt<st.next)) (bs.length) ⟨0,by omega,by omega,by(try simp only[go_sem, ↓reduceIte,Nat.reduceEqDiff,Nat.reduceAdd,Nat.reduceSub,Nat.reduceLeDiff,reduceCtorEq,hX,hF,hA,br,hz]);try rfl,by(try simp only[go_sem, ↓reduceIte,Nat.reduceEqDiff,Nat.reduceAdd,Nat.reduceSub,Nat.reduceLeDiff,reduceCtorEq,hX,hF,hA,br,hz]);try rfl,by(try simp only[go_sem, ↓reduceIte,Nat.reduceEqDiff,Nat.reduceAdd,Nat.reduceSub,Nat.reduceLeDiff,reduceCtorEq,hX,hF,hA,br,hz]);try rfl,by(try simp only[go_sem, ↓reduceIte,Nat.reduceEqDiff,Nat.reduceAdd,Nat.reduceSub,Nat.reduceLeDiff,reduceCtorEq,hX,hF,hA,br,hz]);try rfl,⟨⟨List.replicate cnt [.cq],[],by rw[hA];(simp only[go_sem, ↓reduceIte,Nat.reduceEqDiff,Nat.reduceAdd,Nat.reduceSub,Nat.reduceLeDiff,reduceCtorEq])<;>rfl,by rw[Fg];exact xe _ _,List.nodup_nil,fun i hi=>by cases hi⟩,by rw[hF];(try dsimp only);omega⟩⟩ ?_
 rintro n_a env_a st_a ⟨j,rfl,ale,a6,a5,ag0,ag1,mE⟩ dq
 have a0:=dq 0 (by kernel_rfl);have a1:=dq 1 (by kernel_rfl)
 simp only[go_sem, ↓reduceIte,Nat.reduceEqDiff,Nat.reduceAdd,Nat.reduceSub,Nat.reduceLeDiff,reduceCtorEq,hX,hF,hA,br,hz]at a0 a1
 clear dq
 obtain⟨⟨rows,ids,ag,hR,nB,mQ⟩,hFn⟩:=mE
 have x1:=dI hXA
 have x2:=dI hAF
 have x3:=dI (a:=X) (b:=F) (by omega)
 have vX:=ef (i:=X) (n:=st_a.next) (by omega)
 have vA:=ef (i:=A) (n:=st_a.next) (by omega)
 have vF:=ef (i:=F) (n:=st_a.next) (by omega)
 by_cases hj:(j:Int)<(bs.length:Int)
 ·have cE:∀{e:Env} {gg:Rows} {nx:Nat},(e 6=.int .i64 (IntKind.i64.wrap ((j:Int)+1)))->(e 5=(.ptr X 0 0))->(gg X=some ⟨true,4,[br cnt bs A F]⟩)->(gg F=some ⟨true,1,dP (fun _=>0) bs.length⟩)->(pM A F.bt (kR cnt bs (j+1)) gg nx/\F.bt<nx)->∃m0,m0<(bs.length)-j/\∃j:Nat,m0=(bs.length)-j/\j<=(bs.length)/\e 6=.int .i64 (j:Int)/\e 5=(.ptr X 0 0)/\gg X=some ⟨true,4,[br cnt bs A F]⟩/\gg F=some ⟨true,1,dP (fun _=>0) bs.length⟩/\(pM A F.bt (kR cnt bs j) gg nx/\F.bt<nx):=fun x1 x2 x3 x4 x5=>⟨_,by omega,j+1,rfl,by omega,(by rw[x1,aB (by omega)]),x2,x3,x4,x5⟩
  have ll:j<bs.length:=by omega
  have hZ:=sM ll
  obtain⟨ha1,OY,gM⟩:=ok j ll
  have gh:((cj bs j).a:Int)<(cnt:Int):=by omega
  have fa:((cj bs j).b:Int)<(cnt:Int):=by omega
  have nV:=Ff (m:=j) ha1 OY gM
  have e1:=qi bs j (cj bs j).a
  have e2:=qi bs j (cj bs j).b
  have Mo:(vL cnt bs j)[(cj bs j).b]? =some (iE bs j (cj bs j).b):=Ad OY gM
  have Pe:(kR cnt bs j)[(cj bs j).a]? =some (iE bs j (cj bs j).a):=by simp[kR,ha1]
  have RM:vL cnt bs j=(kR cnt bs j).set (cj bs j).a (iE bs j (cj bs j).a++[j]):=rfl
  have DL:(vL cnt bs j).length=cnt:=by rw[RM,List.length_set,iX]
  have iO:=hR.len
  rw[iX]at iO
  obtain⟨cs7,iV,Hm,Hy⟩:=D8 (A:=A) (K:=⟨251007022,st_a.next+1⟩) (nx:=st_a.next+1+1) (j:=j) hR nB mQ (by omega) Pe (by(try dsimp only);omega) (by(try dsimp only);omega) hFn
  rw[<-RM]at Hy
  obtain⟨c7,rfl⟩:∃c,cs7=[c]:=by
   rcases Hm with⟨_,h⟩|⟨id,h,_⟩<;>exact⟨_,h⟩
  generalize iE bs j (cj bs j).a=La at *
  generalize iE bs j (cj bs j).b=Lb at *
  generalize cj bs j=b at *
  generalize vL cnt bs j=LA at *
  clear RM
  (try((repeat(revert hN;revert N;apply Pn.out));refine wk (tw @a6 (tw @a5 (tw @ag0 (tw @ag1 (tw @a0 (tw @a1 (tw @hj (tw @hZ (tw @ay.eq_1 (tw @ag (tw @iV (tw @gh (tw @fa (tw @iO (tw @x1 (tw @x2 (tw @x3 (tw @vX (tw @vA (tw @vF @br.eq_1)))))))))))))))))))) ?_;(repeat(refine Pn.mk ?_;intro N hN))))
  refine Dg (fun e s=>e 0=.int .i64 cnt/\e 1=.sl (bs.map ay)/\e 5=.ptr X 0 0/\e 6=.int .i64 j/\s.get X=some ⟨true,4,[br cnt bs A F]⟩/\s.get F=some ⟨true,1,dP (fun _=>0) bs.length⟩/\pM A F.bt LA s.get s.next/\F.bt<s.next) ?_ ?_
  ·rintro e1 s1 ⟨m0,m1,m5,m6,mX,mF,⟨rows1,ids1,mg,mR,mnd,mver⟩,mn⟩
   refine hN _ _ ?_
   clear hN N
   have iP:=mR.len
   rw[DL]at iP
   have wX:=ef (i:=X) (n:=s1.next) (by omega)
   have wA:=ef (i:=A) (n:=s1.next) (by omega)
   have wF:=ef (i:=F) (n:=s1.next) (by omega)
   obtain⟨cs8,iW,Hn,Hz⟩:=D8 (A:=A) (K:=⟨251008022,s1.next⟩) (nx:=s1.next+1) (j:=j) mR mnd mver (by omega) Mo (by(try dsimp only);omega) (by(try dsimp only);omega) mn
   rw[nV]at Hz
   obtain⟨c8,rfl⟩:∃c,cs8=[c]:=by
    rcases Hn with⟨_,h⟩|⟨id,h,_⟩<;>exact⟨_,h⟩
   (try((repeat(revert hN;revert N;apply Pn.out));refine wk (tw @m0 (tw @m1 (tw @m5 (tw @m6 (tw @mX (tw @mF (tw @hj (tw @hZ (tw @ay.eq_1 (tw @mg (tw @iW (tw @gh (tw @fa (tw @iP (tw @x1 (tw @x2 (tw @x3 (tw @wX (tw @wA (tw @wF @br.eq_1)))))))))))))))))))) ?_;(repeat(refine Pn.mk ?_;intro N hN))))
   refine KM (fun e s=>e 0=.int .i64 cnt/\e 1=.sl (bs.map ay)/\e 5=.ptr X 0 0/\e 6=.int .i64 j/\s.get X=some ⟨true,4,[br cnt bs A F]⟩/\s.get F=some ⟨true,1,dP (fun _=>0) bs.length⟩/\pM A F.bt (kR cnt bs (j+1)) s.get s.next/\F.bt<s.next) ?_ ?_
   ·rintro e2 s2 ⟨p0,p1,p5,p6,pX,pF,pL,pn⟩
    simp only[dn,aX]
    refine hN _ _ ?_
    clear hN N
    (try((repeat(revert hN;revert N;apply Pn.out));refine wk (tw @p0 (tw @p1 (tw @p5 @p6))) ?_;(repeat(refine Pn.mk ?_;intro N hN))))
    refine cE ?_ ?_ ?_ ?_ (⟨by obtain⟨r,i,q1,q2,q3,q4⟩:=pL;exact⟨r,i,sd @q1,q2,q3,fun x hx=>by have:=q4 x hx;(try dsimp only);omega⟩,by(try dsimp only);omega⟩)
    all_goals simp only[go_sem, ↓reduceIte,Nat.reduceEqDiff,Nat.reduceAdd,Nat.reduceSub,Nat.reduceLeDiff,reduceCtorEq,p0,p1,p5,p6,pX,pF]
   ·intro N hN
    rcases Hn with⟨OS,zM⟩|⟨id,zM,hLp,hid,JG,wI⟩
    ·simp only[List.cons.injEq,and_true]at zM
     subst zM
     subst OS
     refine eU ?_ ?_<;>(try((repeat(revert hN;revert N;apply Pn.out));refine wk (tw @m0 (tw @m1 (tw @m5 (tw @m6 (tw @mX (tw @mF (tw @hj (tw @hZ (tw @ay.eq_1 (tw @mg (tw @iW (tw @gh (tw @fa (tw @iP (tw @x1 (tw @x2 (tw @x3 (tw @wX (tw @wA (tw @wF @br.eq_1)))))))))))))))))))) ?_;(repeat(refine Pn.mk ?_;intro N hN))))<;>(try refine eU ?_ ?_)<;>(try((repeat(revert hN;revert N;apply Pn.out));refine wk (tw @m0 (tw @m1 (tw @m5 (tw @m6 (tw @mX (tw @mF (tw @hj (tw @hZ (tw @ay.eq_1 (tw @mg (tw @iW (tw @gh (tw @fa (tw @iP (tw @x1 (tw @x2 (tw @x3 (tw @wX (tw @wA (tw @wF @br.eq_1)))))))))))))))))))) ?_;(repeat(refine Pn.mk ?_;intro N hN))))<;>(try refine eU ?_ ?_)<;>(try((repeat(revert hN;revert N;apply Pn.out));refine wk (tw @m0 (tw @m1 (tw @m5 (tw @m6 (tw @mX (tw @mF (tw @hj (tw @hZ (tw @ay.eq_1 (tw @mg (tw @iW (tw @gh (tw @fa (tw @iP (tw @x1 (tw @x2 (tw @x3 (tw @wX (tw @wA (tw @wF @br.eq_1)))))))))))))))))))) ?_;(repeat(refine Pn.mk ?_;intro N hN))))<;>(try refine eU ?_ ?_)<;>(try((repeat(revert hN;revert N;apply Pn.out));refine wk (tw @m0 (tw @m1 (tw @m5 (tw @m6 (tw @mX (tw @mF (tw @hj (tw @hZ (tw @ay.eq_1 (tw @mg (tw @iW (tw @gh (tw @fa (tw @iP (tw @x1 (tw @x2 (tw @x3 (tw @wX (tw @wA (tw @wF @br.eq_1)))))))))))))))))))) ?_;(repeat(refine Pn.mk ?_;intro N hN))))<;>(try refine eU ?_ ?_)<;>(try((repeat(revert hN;revert N;apply Pn.out));refine wk (tw @m0 (tw @m1 (tw @m5 (tw @m6 (tw @mX (tw @mF (tw @hj (tw @hZ (tw @ay.eq_1 (tw @mg (tw @iW (tw @gh (tw @fa (tw @iP (tw @x1 (tw @x2 (tw @x3 (tw @wX (tw @wA (tw @wF @br.eq_1)))))))))))))))))))) ?_;(repeat(refine Pn.mk ?_;intro N hN))))<;>(try refine eU ?_ ?_)<;>(try((repeat(revert hN;revert N;apply Pn.out));refine wk (tw @m0 (tw @m1 (tw @m5 (tw @m6 (tw @mX (tw @mF (tw @hj (tw @hZ (tw @ay.eq_1 (tw @mg (tw @iW (tw @gh (tw @fa (tw @iP (tw @x1 (tw @x2 (tw @x3 (tw @wX (tw @wA (tw @wF @br.eq_1)))))))))))))))))))) ?_;(repeat(refine Pn.mk ?_;intro N hN))))
     all_goals
      refine⟨by simp only[go_sem, ↓reduceIte,Nat.reduceEqDiff,Nat.reduceAdd,Nat.reduceSub,Nat.reduceLeDiff,reduceCtorEq,m0,m1,m5,m6,mX,mF,hj,hZ,ay,mg,iW,gh,fa,iP,x1,x2,x3,wX,wA,wF,br],by simp only[go_sem, ↓reduceIte,Nat.reduceEqDiff,Nat.reduceAdd,Nat.reduceSub,Nat.reduceLeDiff,reduceCtorEq,m0,m1,m5,m6,mX,mF,hj,hZ,ay,mg,iW,gh,fa,iP,x1,x2,x3,wX,wA,wF,br],by simp only[go_sem, ↓reduceIte,Nat.reduceEqDiff,Nat.reduceAdd,Nat.reduceSub,Nat.reduceLeDiff,reduceCtorEq,m0,m1,m5,m6,mX,mF,hj,hZ,ay,mg,iW,gh,fa,iP,x1,x2,x3,wX,wA,wF,br],by simp only[go_sem, ↓reduceIte,Nat.reduceEqDiff,Nat.reduceAdd,Nat.reduceSub,Nat.reduceLeDiff,reduceCtorEq,m0,m1,m5,m6,mX,mF,hj,hZ,ay,mg,iW,gh,fa,iP,x1,x2,x3,wX,wA,wF,br],by simp only[go_sem, ↓reduceIte,Nat.reduceEqDiff,Nat.reduceAdd,Nat.reduceSub,Nat.reduceLeDiff,reduceCtorEq,m0,m1,m5,m6,mX,mF,hj,hZ,ay,mg,iW,gh,fa,iP,x1,x2,x3,wX,wA,wF,br],by simp only[go_sem, ↓reduceIte,Nat.reduceEqDiff,Nat.reduceAdd,Nat.reduceSub,Nat.reduceLeDiff,reduceCtorEq,m0,m1,m5,m6,mX,mF,hj,hZ,ay,mg,iW,gh,fa,iP,x1,x2,x3,wX,wA,wF,br],Hz _ (by simp only[go_sem, ↓reduceIte,Nat.reduceEqDiff,Nat.reduceAdd,Nat.reduceSub,Nat.reduceLeDiff,reduceCtorEq,m0,m1,m5,m6,mX,mF,hj,hZ,ay,mg,iW,gh,fa,iP,x1,x2,x3,wX,wA,wF,br,List.length_nil]) (by simp only[go_sem, ↓reduceIte,Nat.reduceEqDiff,Nat.reduceAdd,Nat.reduceSub,Nat.reduceLeDiff,reduceCtorEq,m0,m1,m5,m6,mX,mF,hj,hZ,ay,mg,iW,gh,fa,iP,x1,x2,x3,wX,wA,wF,br,List.map_nil,List.nil_append]) (fun i hi Mr e9=>?_),by(try dsimp only);omega⟩
      clear e9
      simp only[go_sem, ↓reduceIte,Nat.reduceEqDiff,Nat.reduceAdd,Nat.reduceSub,Nat.reduceLeDiff,reduceCtorEq,wX,wA,wF,ef hi,Mr]
    ·simp only[List.cons.injEq,and_true]at zM
     subst zM
     have qI:=ef JG
     have y1:=dI (a:=A) (b:=id) (by omega)
     have y2:=dI (a:=F) (b:=id) wI
     have y3:=dI (a:=X) (b:=id) (by omega)
     have e3:Lb.length+1<=16777216:=by omega
     have z1:(Lb.map eN).length=Lb.length:=by simp
     refine eU ?_ ?_<;>(try((repeat(revert hN;revert N;apply Pn.out));refine wk (tw @m0 (tw @m1 (tw @m5 (tw @m6 (tw @mX (tw @mF (tw @hj (tw @hZ (tw @ay.eq_1 (tw @mg (tw @iW (tw @gh (tw @fa (tw @iP (tw @x1 (tw @x2 (tw @x3 (tw @wX (tw @wA (tw @wF (tw @br.eq_1 (tw @hid (tw @qI (tw @y1 (tw @y2 (tw @y3 (tw @e3 @z1))))))))))))))))))))))))))) ?_;(repeat(refine Pn.mk ?_;intro N hN))))<;>(try refine eU ?_ ?_)<;>(try((repeat(revert hN;revert N;apply Pn.out));refine wk (tw @m0 (tw @m1 (tw @m5 (tw @m6 (tw @mX (tw @mF (tw @hj (tw @hZ (tw @ay.eq_1 (tw @mg (tw @iW (tw @gh (tw @fa (tw @iP (tw @x1 (tw @x2 (tw @x3 (tw @wX (tw @wA (tw @wF (tw @br.eq_1 (tw @hid (tw @qI (tw @y1 (tw @y2 (tw @y3 (tw @e3 @z1))))))))))))))))))))))))))) ?_;(repeat(refine Pn.mk ?_;intro N hN))))<;>(try refine eU ?_ ?_)<;>(try((repeat(revert hN;revert N;apply Pn.out));refine wk (tw @m0 (tw @m1 (tw @m5 (tw @m6 (tw @mX (tw @mF (tw @hj (tw @hZ (tw @ay.eq_1 (tw @mg (tw @iW (tw @gh (tw @fa (tw @iP (tw @x1 (tw @x2 (tw @x3 (tw @wX (tw @wA (tw @wF (tw @br.eq_1 (tw @hid (tw @qI (tw @y1 (tw @y2 (tw @y3 (tw @e3 @z1))))))))))))))))))))))))))) ?_;(repeat(refine Pn.mk ?_;intro N hN))))<;>(try refine eU ?_ ?_)<;>(try((repeat(revert hN;revert N;apply Pn.out));refine wk (tw @m0 (tw @m1 (tw @m5 (tw @m6 (tw @mX (tw @mF (tw @hj (tw @hZ (tw @ay.eq_1 (tw @mg (tw @iW (tw @gh (tw @fa (tw @iP (tw @x1 (tw @x2 (tw @x3 (tw @wX (tw @wA (tw @wF (tw @br.eq_1 (tw @hid (tw @qI (tw @y1 (tw @y2 (tw @y3 (tw @e3 @z1))))))))))))))))))))))))))) ?_;(repeat(refine Pn.mk ?_;intro N hN))))<;>(try refine eU ?_ ?_)<;>(try((repeat(revert hN;revert N;apply Pn.out));refine wk (tw @m0 (tw @m1 (tw @m5 (tw @m6 (tw @mX (tw @mF (tw @hj (tw @hZ (tw @ay.eq_1 (tw @mg (tw @iW (tw @gh (tw @fa (tw @iP (tw @x1 (tw @x2 (tw @x3 (tw @wX (tw @wA (tw @wF (tw @br.eq_1 (tw @hid (tw @qI (tw @y1 (tw @y2 (tw @y3 (tw @e3 @z1))))))))))))))))))))))))))) ?_;(repeat(refine Pn.mk ?_;intro N hN))))<;>(try refine eU ?_ ?_)<;>(try((repeat(revert hN;revert N;apply Pn.out));refine wk (tw @m0 (tw @m1 (tw @m5 (tw @m6 (tw @mX (tw @mF (tw @hj (tw @hZ (tw @ay.eq_1 (tw @mg (tw @iW (tw @gh (tw @fa (tw @iP (tw @x1 (tw @x2 (tw @x3 (tw @wX (tw @wA (tw @wF (tw @br.eq_1 (tw @hid (tw @qI (tw @y1 (tw @y2 (tw @y3 (tw @e3 @z1))))))))))))))))))))))))))) ?_;(repeat(refine Pn.mk ?_;intro N hN))))
     all_goals
      refine⟨by simp only[go_sem, ↓reduceIte,Nat.reduceEqDiff,Nat.reduceAdd,Nat.reduceSub,Nat.reduceLeDiff,reduceCtorEq,m0,m1,m5,m6,mX,mF,hj,hZ,ay,mg,iW,gh,fa,iP,x1,x2,x3,wX,wA,wF,br,hid,qI,y1,y2,y3,e3,z1],by simp only[go_sem, ↓reduceIte,Nat.reduceEqDiff,Nat.reduceAdd,Nat.reduceSub,Nat.reduceLeDiff,reduceCtorEq,m0,m1,m5,m6,mX,mF,hj,hZ,ay,mg,iW,gh,fa,iP,x1,x2,x3,wX,wA,wF,br,hid,qI,y1,y2,y3,e3,z1],by simp only[go_sem, ↓reduceIte,Nat.reduceEqDiff,Nat.reduceAdd,Nat.reduceSub,Nat.reduceLeDiff,reduceCtorEq,m0,m1,m5,m6,mX,mF,hj,hZ,ay,mg,iW,gh,fa,iP,x1,x2,x3,wX,wA,wF,br,hid,qI,y1,y2,y3,e3,z1],by simp only[go_sem, ↓reduceIte,Nat.reduceEqDiff,Nat.reduceAdd,Nat.reduceSub,Nat.reduceLeDiff,reduceCtorEq,m0,m1,m5,m6,mX,mF,hj,hZ,ay,mg,iW,gh,fa,iP,x1,x2,x3,wX,wA,wF,br,hid,qI,y1,y2,y3,e3,z1],by simp only[go_sem, ↓reduceIte,Nat.reduceEqDiff,Nat.reduceAdd,Nat.reduceSub,Nat.reduceLeDiff,reduceCtorEq,m0,m1,m5,m6,mX,mF,hj,hZ,ay,mg,iW,gh,fa,iP,x1,x2,x3,wX,wA,wF,br,hid,qI,y1,y2,y3,e3,z1],by simp only[go_sem, ↓reduceIte,Nat.reduceEqDiff,Nat.reduceAdd,Nat.reduceSub,Nat.reduceLeDiff,reduceCtorEq,m0,m1,m5,m6,mX,mF,hj,hZ,ay,mg,iW,gh,fa,iP,x1,x2,x3,wX,wA,wF,br,hid,qI,y1,y2,y3,e3,z1],Hz _ (by simp only[go_sem, ↓reduceIte,Nat.reduceEqDiff,Nat.reduceAdd,Nat.reduceSub,Nat.reduceLeDiff,reduceCtorEq,m0,m1,m5,m6,mX,mF,hj,hZ,ay,mg,iW,gh,fa,iP,x1,x2,x3,wX,wA,wF,br,hid,qI,y1,y2,y3,e3,z1,List.length_nil]) (by simp only[go_sem, ↓reduceIte,Nat.reduceEqDiff,Nat.reduceAdd,Nat.reduceSub,Nat.reduceLeDiff,reduceCtorEq,m0,m1,m5,m6,mX,mF,hj,hZ,ay,mg,iW,gh,fa,iP,x1,x2,x3,wX,wA,wF,br,hid,qI,y1,y2,y3,e3,z1,List.map_nil,List.nil_append]) (fun i hi Mr e9=>?_),by(try dsimp only);omega⟩
      have gM:=e9 id rfl
      simp only[go_sem, ↓reduceIte,Nat.reduceEqDiff,Nat.reduceAdd,Nat.reduceSub,Nat.reduceLeDiff,reduceCtorEq,wX,wA,wF,ef hi,Mr,gM]
  ·intro N hN
   rcases Hm with⟨OS,zM⟩|⟨id,zM,hLp,hid,JG,wI⟩
   ·simp only[List.cons.injEq,and_true]at zM
    subst zM
    subst OS
    refine eU ?_ ?_<;>(try((repeat(revert hN;revert N;apply Pn.out));refine wk (tw @a6 (tw @a5 (tw @ag0 (tw @ag1 (tw @a0 (tw @a1 (tw @hj (tw @hZ (tw @ay.eq_1 (tw @ag (tw @iV (tw @gh (tw @fa (tw @iO (tw @x1 (tw @x2 (tw @x3 (tw @vX (tw @vA (tw @vF @br.eq_1)))))))))))))))))))) ?_;(repeat(refine Pn.mk ?_;intro N hN))))<;>(try refine eU ?_ ?_)<;>(try((repeat(revert hN;revert N;apply Pn.out));refine wk (tw @a6 (tw @a5 (tw @ag0 (tw @ag1 (tw @a0 (tw @a1 (tw @hj (tw @hZ (tw @ay.eq_1 (tw @ag (tw @iV (tw @gh (tw @fa (tw @iO (tw @x1 (tw @x2 (tw @x3 (tw @vX (tw @vA (tw @vF @br.eq_1)))))))))))))))))))) ?_;(repeat(refine Pn.mk ?_;intro N hN))))<;>(try refine eU ?_ ?_)<;>(try((repeat(revert hN;revert N;apply Pn.out));refine wk (tw @a6 (tw @a5 (tw @ag0 (tw @ag1 (tw @a0 (tw @a1 (tw @hj (tw @hZ (tw @ay.eq_1 (tw @ag (tw @iV (tw @gh (tw @fa (tw @iO (tw @x1 (tw @x2 (tw @x3 (tw @vX (tw @vA (tw @vF @br.eq_1)))))))))))))))))))) ?_;(repeat(refine Pn.mk ?_;intro N hN))))<;>(try refine eU ?_ ?_)<;>(try((repeat(revert hN;revert N;apply Pn.out));refine wk (tw @a6 (tw @a5 (tw @ag0 (tw @ag1 (tw @a0 (tw @a1 (tw @hj (tw @hZ (tw @ay.eq_1 (tw @ag (tw @iV (tw @gh (tw @fa (tw @iO (tw @x1 (tw @x2 (tw @x3 (tw @vX (tw @vA (tw @vF @br.eq_1)))))))))))))))))))) ?_;(repeat(refine Pn.mk ?_;intro N hN))))<;>(try refine eU ?_ ?_)<;>(try((repeat(revert hN;revert N;apply Pn.out));refine wk (tw @a6 (tw @a5 (tw @ag0 (tw @ag1 (tw @a0 (tw @a1 (tw @hj (tw @hZ (tw @ay.eq_1 (tw @ag (tw @iV (tw @gh (tw @fa (tw @iO (tw @x1 (tw @x2 (tw @x3 (tw @vX (tw @vA (tw @vF @br.eq_1)))))))))))))))))))) ?_;(repeat(refine Pn.mk ?_;intro N hN))))<;>(try refine eU ?_ ?_)<;>(try((repeat(revert hN;revert N;apply Pn.out));refine wk (tw @a6 (tw @a5 (tw @ag0 (tw @ag1 (tw @a0 (tw @a1 (tw @hj (tw @hZ (tw @ay.eq_1 (tw @ag (tw @iV (tw @gh (tw @fa (tw @iO (tw @x1 (tw @x2 (tw @x3 (tw @vX (tw @vA (tw @vF @br.eq_1)))))))))))))))))))) ?_;(repeat(refine Pn.mk ?_;intro N hN))))
    all_goals
     refine⟨by simp only[go_sem, ↓reduceIte,Nat.reduceEqDiff,Nat.reduceAdd,Nat.reduceSub,Nat.reduceLeDiff,reduceCtorEq,a6,a5,ag0,ag1,a0,a1,hj,hZ,ay,ag,iV,gh,fa,iO,x1,x2,x3,vX,vA,vF,br],by simp only[go_sem, ↓reduceIte,Nat.reduceEqDiff,Nat.reduceAdd,Nat.reduceSub,Nat.reduceLeDiff,reduceCtorEq,a6,a5,ag0,ag1,a0,a1,hj,hZ,ay,ag,iV,gh,fa,iO,x1,x2,x3,vX,vA,vF,br],by simp only[go_sem, ↓reduceIte,Nat.reduceEqDiff,Nat.reduceAdd,Nat.reduceSub,Nat.reduceLeDiff,reduceCtorEq,a6,a5,ag0,ag1,a0,a1,hj,hZ,ay,ag,iV,gh,fa,iO,x1,x2,x3,vX,vA,vF,br],by simp only[go_sem, ↓reduceIte,Nat.reduceEqDiff,Nat.reduceAdd,Nat.reduceSub,Nat.reduceLeDiff,reduceCtorEq,a6,a5,ag0,ag1,a0,a1,hj,hZ,ay,ag,iV,gh,fa,iO,x1,x2,x3,vX,vA,vF,br],by simp only[go_sem, ↓reduceIte,Nat.reduceEqDiff,Nat.reduceAdd,Nat.reduceSub,Nat.reduceLeDiff,reduceCtorEq,a6,a5,ag0,ag1,a0,a1,hj,hZ,ay,ag,iV,gh,fa,iO,x1,x2,x3,vX,vA,vF,br],by simp only[go_sem, ↓reduceIte,Nat.reduceEqDiff,Nat.reduceAdd,Nat.reduceSub,Nat.reduceLeDiff,reduceCtorEq,a6,a5,ag0,ag1,a0,a1,hj,hZ,ay,ag,iV,gh,fa,iO,x1,x2,x3,vX,vA,vF,br],Hy _ (by simp only[go_sem, ↓reduceIte,Nat.reduceEqDiff,Nat.reduceAdd,Nat.reduceSub,Nat.reduceLeDiff,reduceCtorEq,a6,a5,ag0,ag1,a0,a1,hj,hZ,ay,ag,iV,gh,fa,iO,x1,x2,x3,vX,vA,vF,br,List.length_nil]) (by simp only[go_sem, ↓reduceIte,Nat.reduceEqDiff,Nat.reduceAdd,Nat.reduceSub,Nat.reduceLeDiff,reduceCtorEq,a6,a5,ag0,ag1,a0,a1,hj,hZ,ay,ag,iV,gh,fa,iO,x1,x2,x3,vX,vA,vF,br,List.map_nil,List.nil_append]) (fun i hi Mr e9=>?_),by(try dsimp only);omega⟩
     clear e9
     simp only[go_sem, ↓reduceIte,Nat.reduceEqDiff,Nat.reduceAdd,Nat.reduceSub,Nat.reduceLeDiff,reduceCtorEq,vX,vA,vF,ef hi,Mr]
   ·simp only[List.cons.injEq,and_true]at zM
    subst zM
    have qI:=ef JG
    have y1:=dI (a:=A) (b:=id) (by omega)
    have y2:=dI (a:=F) (b:=id) wI
    have y3:=dI (a:=X) (b:=id) (by omega)
    have e3:La.length+1<=16777216:=by omega
    have z1:(La.map eN).length=La.length:=by simp
    refine eU ?_ ?_<;>(try((repeat(revert hN;revert N;apply Pn.out));refine wk (tw @a6 (tw @a5 (tw @ag0 (tw @ag1 (tw @a0 (tw @a1 (tw @hj (tw @hZ (tw @ay.eq_1 (tw @ag (tw @iV (tw @gh (tw @fa (tw @iO (tw @x1 (tw @x2 (tw @x3 (tw @vX (tw @vA (tw @vF (tw @br.eq_1 (tw @hid (tw @qI (tw @y1 (tw @y2 (tw @y3 (tw @e3 @z1))))))))))))))))))))))))))) ?_;(repeat(refine Pn.mk ?_;intro N hN))))<;>(try refine eU ?_ ?_)<;>(try((repeat(revert hN;revert N;apply Pn.out));refine wk (tw @a6 (tw @a5 (tw @ag0 (tw @ag1 (tw @a0 (tw @a1 (tw @hj (tw @hZ (tw @ay.eq_1 (tw @ag (tw @iV (tw @gh (tw @fa (tw @iO (tw @x1 (tw @x2 (tw @x3 (tw @vX (tw @vA (tw @vF (tw @br.eq_1 (tw @hid (tw @qI (tw @y1 (tw @y2 (tw @y3 (tw @e3 @z1))))))))))))))))))))))))))) ?_;(repeat(refine Pn.mk ?_;intro N hN))))<;>(try refine eU ?_ ?_)<;>(try((repeat(revert hN;revert N;apply Pn.out));refine wk (tw @a6 (tw @a5 (tw @ag0 (tw @ag1 (tw @a0 (tw @a1 (tw @hj (tw @hZ (tw @ay.eq_1 (tw @ag (tw @iV (tw @gh (tw @fa (tw @iO (tw @x1 (tw @x2 (tw @x3 (tw @vX (tw @vA (tw @vF (tw @br.eq_1 (tw @hid (tw @qI (tw @y1 (tw @y2 (tw @y3 (tw @e3 @z1))))))))))))))))))))))))))) ?_;(repeat(refine Pn.mk ?_;intro N hN))))<;>(try refine eU ?_ ?_)<;>(try((repeat(revert hN;revert N;apply Pn.out));refine wk (tw @a6 (tw @a5 (tw @ag0 (tw @ag1 (tw @a0 (tw @a1 (tw @hj (tw @hZ (tw @ay.eq_1 (tw @ag (tw @iV (tw @gh (tw @fa (tw @iO (tw @x1 (tw @x2 (tw @x3 (tw @vX (tw @vA (tw @vF (tw @br.eq_1 (tw @hid (tw @qI (tw @y1 (tw @y2 (tw @y3 (tw @e3 @z1))))))))))))))))))))))))))) ?_;(repeat(refine Pn.mk ?_;intro N hN))))<;>(try refine eU ?_ ?_)<;>(try((repeat(revert hN;revert N;apply Pn.out));refine wk (tw @a6 (tw @a5 (tw @ag0 (tw @ag1 (tw @a0 (tw @a1 (tw @hj (tw @hZ (tw @ay.eq_1 (tw @ag (tw @iV (tw @gh (tw @fa (tw @iO (tw @x1 (tw @x2 (tw @x3 (tw @vX (tw @vA (tw @vF (tw @br.eq_1 (tw @hid (tw @qI (tw @y1 (tw @y2 (tw @y3 (tw @e3 @z1))))))))))))))))))))))))))) ?_;(repeat(refine Pn.mk ?_;intro N hN))))<;>(try refine eU ?_ ?_)<;>(try((repeat(revert hN;revert N;apply Pn.out));refine wk (tw @a6 (tw @a5 (tw @ag0 (tw @ag1 (tw @a0 (tw @a1 (tw @hj (tw @hZ (tw @ay.eq_1 (tw @ag (tw @iV (tw @gh (tw @fa (tw @iO (tw @x1 (tw @x2 (tw @x3 (tw @vX (tw @vA (tw @vF (tw @br.eq_1 (tw @hid (tw @qI (tw @y1 (tw @y2 (tw @y3 (tw @e3 @z1))))))))))))))))))))))))))) ?_;(repeat(refine Pn.mk ?_;intro N hN))))
    all_goals
     refine⟨by simp only[go_sem, ↓reduceIte,Nat.reduceEqDiff,Nat.reduceAdd,Nat.reduceSub,Nat.reduceLeDiff,reduceCtorEq,a6,a5,ag0,ag1,a0,a1,hj,hZ,ay,ag,iV,gh,fa,iO,x1,x2,x3,vX,vA,vF,br,hid,qI,y1,y2,y3,e3,z1],by simp only[go_sem, ↓reduceIte,Nat.reduceEqDiff,Nat.reduceAdd,Nat.reduceSub,Nat.reduceLeDiff,reduceCtorEq,a6,a5,ag0,ag1,a0,a1,hj,hZ,ay,ag,iV,gh,fa,iO,x1,x2,x3,vX,vA,vF,br,hid,qI,y1,y2,y3,e3,z1],by simp only[go_sem, ↓reduceIte,Nat.reduceEqDiff,Nat.reduceAdd,Nat.reduceSub,Nat.reduceLeDiff,reduceCtorEq,a6,a5,ag0,ag1,a0,a1,hj,hZ,ay,ag,iV,gh,fa,iO,x1,x2,x3,vX,vA,vF,br,hid,qI,y1,y2,y3,e3,z1],by simp only[go_sem, ↓reduceIte,Nat.reduceEqDiff,Nat.reduceAdd,Nat.reduceSub,Nat.reduceLeDiff,reduceCtorEq,a6,a5,ag0,ag1,a0,a1,hj,hZ,ay,ag,iV,gh,fa,iO,x1,x2,x3,vX,vA,vF,br,hid,qI,y1,y2,y3,e3,z1],by simp only[go_sem, ↓reduceIte,Nat.reduceEqDiff,Nat.reduceAdd,Nat.reduceSub,Nat.reduceLeDiff,reduceCtorEq,a6,a5,ag0,ag1,a0,a1,hj,hZ,ay,ag,iV,gh,fa,iO,x1,x2,x3,vX,vA,vF,br,hid,qI,y1,y2,y3,e3,z1],by simp only[go_sem, ↓reduceIte,Nat.reduceEqDiff,Nat.reduceAdd,Nat.reduceSub,Nat.reduceLeDiff,reduceCtorEq,a6,a5,ag0,ag1,a0,a1,hj,hZ,ay,ag,iV,gh,fa,iO,x1,x2,x3,vX,vA,vF,br,hid,qI,y1,y2,y3,e3,z1],Hy _ (by simp only[go_sem, ↓reduceIte,Nat.reduceEqDiff,Nat.reduceAdd,Nat.reduceSub,Nat.reduceLeDiff,reduceCtorEq,a6,a5,ag0,ag1,a0,a1,hj,hZ,ay,ag,iV,gh,fa,iO,x1,x2,x3,vX,vA,vF,br,hid,qI,y1,y2,y3,e3,z1,List.length_nil]) (by simp only[go_sem, ↓reduceIte,Nat.reduceEqDiff,Nat.reduceAdd,Nat.reduceSub,Nat.reduceLeDiff,reduceCtorEq,a6,a5,ag0,ag1,a0,a1,hj,hZ,ay,ag,iV,gh,fa,iO,x1,x2,x3,vX,vA,vF,br,hid,qI,y1,y2,y3,e3,z1,List.map_nil,List.nil_append]) (fun i hi Mr e9=>?_),by(try dsimp only);omega⟩
     have gM:=e9 id rfl
     simp only[go_sem, ↓reduceIte,Nat.reduceEqDiff,Nat.reduceAdd,Nat.reduceSub,Nat.reduceLeDiff,reduceCtorEq,vX,vA,vF,ef hi,Mr,gM]
 ·have gq:j=bs.length:=by omega
  subst gq
  (try((repeat(revert hN;revert N;apply Pn.out));refine wk (tw @a6 (tw @a5 (tw @ag0 (tw @ag1 (tw @a0 (tw @a1 @hj)))))) ?_;(repeat(refine Pn.mk ?_;intro N hN))))
  exact gQ (.inl rfl) (by simp only[e6,gS,go_sem, ↓reduceIte,Nat.reduceEqDiff,Nat.reduceAdd,Nat.reduceSub,Nat.reduceLeDiff,reduceCtorEq];rfl) ⟨X,A,F,rfl,hXs,⟨ag0,⟨rows,ids,ag,hR,nB,fun x hx=>by have:=mQ x hx;(try dsimp only);omega⟩,ag1,hXA,hAF,by(try dsimp only);omega⟩⟩
theorem pM.frame {A:Id} {lo nx vP:Nat} {L:List (List Nat)} {g g':Rows} (h:pM A lo L g nx) (hA:A.bt<nx) (hf:∀i:Id,i.bt<nx->lo<i.bt∨i=A->g' i=g i) (hn:nx<=vP):pM A lo L g' vP:=by
 obtain⟨rows,ids,h1,h2,h3,h4⟩:=h
 refine⟨rows,ids,(hf A hA (.inr rfl)).trans h1,h2.frame Lm fun i hi=>hf i (h4 i hi).2 (.inl (h4 i hi).1),h3,fun i hi=>?_⟩
 have:=h4 i hi;omega
theorem nf.frame {cnt:Nat} {bs:List PB} {f:Nat->Int} {X A F:Id} {g g':Rows} {nx vP:Nat} (h:nf cnt bs f X A F g nx) (hf:∀i:Id,i.bt<nx->g' i=g i) (hn:nx<=vP):nf cnt bs f X A F g' vP:=by
 have h1:=h.xa;have h2:=h.af;have h3:=h.fn
 exact⟨(hf X (by omega)).trans h.x,h.a.frame (by omega) (fun i hi _=>hf i hi) hn,(hf F h3).trans h.f,h1,h2,by omega⟩
theorem nf.OK {cnt:Nat} {bs:List PB} {f f':Nat->Int} {X A F:Id} {g g':Rows} {nx vP:Nat} (h:nf cnt bs f X A F g nx) (hF:g' F=some ⟨true,1,dP f' bs.length⟩) (hf:∀i:Id,i.bt<nx->(i=F)=False->g' i=g i) (hn:nx<=vP):nf cnt bs f' X A F g' vP:=by
 have h1:=h.xa;have h2:=h.af;have h3:=h.fn
 refine⟨(hf X (by omega) (dI (by omega)).1).trans h.x,h.a.frame (by omega) (fun i hi jW=>hf i hi ?_) hn,hF,h1,h2,by omega⟩
 rcases jW with jW|rfl
 ·exact(dI jW).2
 ·exact(dI h2).1
theorem M9 (cnt:Nat) (bs:List PB) (f:Nat->Int) (hs:Small bs f) (e v:Nat) (he:e<bs.length) (X A F:Id) (σ:ax) (nx:Nat) (hS:nf cnt bs f X A F σ.get nx) (hn:nx<=σ.next):
  Call Tryz.prog 298 [.ptr X 0 0,.int .i64 v,.int .i64 e] σ fun r σ'=>nf cnt bs (sj bs f e v) X A F σ'.get nx/\σ.next<=σ'.next/\∀i:Id,(i=F)=False->σ'.get i=σ.get i:=by
 refine iq eE rfl fun hl=>?_
 clear hl
 have hX:=hS.x
 have hF:=hS.f
 have hb:=sM he
 have Sw:=dH (f:=f) he
 have tl:=dw f bs.length
 obtain⟨⟨s0,s1⟩,s2,s3⟩:=hs e he
 have hei:(e:Int)<(bs.length:Int):=by omega
 have w1:IntKind.i64.wrap (f e+1)=f e+1:=bz (by omega)
 have w2:IntKind.i64.wrap (f e-1)=f e+-1:=by rw[bz (by omega)];omega
 rw[aA]at Sw
 unfold sj
 by_cases h:(cj bs e).a=v
 ·have eQ:(dP f bs.length).set e (aA (f e+1))=dP (fun j=>f j+if j=e then(if (cj bs e).a=v then 1 else -1)else 0) bs.length:=kH he (by rw[if_pos rfl,if_pos h]) fun i _ hi=>by rw[if_neg hi,Int.add_zero]
  rw[aA]at eQ
  generalize QJ:cj bs e=b at *
  have hd:decide ((b.a:Int)=(v:Int))=true:=decide_eq_true (by rw[h])
  (try((repeat(revert hN;revert N;apply Pn.out));refine wk (tw @hX (tw @hF (tw @hb (tw @Sw (tw @tl (tw @hei (tw @w1 (tw @eQ (tw @hd (tw @ay.eq_1 @br.eq_1)))))))))) ?_;(repeat(refine Pn.mk ?_;intro N hN))))
  exact gQ (.inr rfl) (vs:=[]) rfl ⟨hS.OK (sd @Nat.zero_add) (fun i hi gM=>sd @gM) (Nat.le_refl _),by(try dsimp only);omega,fun i gM=>sd @gM⟩
 ·have eQ:(dP f bs.length).set e (aA (f e+-1))=dP (fun j=>f j+if j=e then(if (cj bs e).a=v then 1 else -1)else 0) bs.length:=kH he (by rw[if_pos rfl,if_neg h]) fun i _ hi=>by rw[if_neg hi,Int.add_zero]
  rw[aA]at eQ
  generalize QJ:cj bs e=b at *
  have hd:decide ((b.a:Int)=(v:Int))=false:=decide_eq_false fun hc=>h (by omega)
  (try((repeat(revert hN;revert N;apply Pn.out));refine wk (tw @hX (tw @hF (tw @hb (tw @Sw (tw @tl (tw @hei (tw @w2 (tw @eQ (tw @hd (tw @ay.eq_1 @br.eq_1)))))))))) ?_;(repeat(refine Pn.mk ?_;intro N hN))))
  exact gQ (.inr rfl) (vs:=[]) rfl ⟨hS.OK (sd @Nat.zero_add) (fun i hi gM=>sd @gM) (Nat.le_refl _),by(try dsimp only);omega,fun i gM=>sd @gM⟩
structure nh (bs:List PB) (out:Nat->Int) (f f':Nat->Int) (x v:Nat):Prop where
 le:∀i,i<bs.length->f' i<=(cj bs i).s/\-(cj bs i).s<=f' i
 cut:∀S:Nat->Bool,EI S bs f'=EI S bs f+bi (S x)-bi (S v)
 FE:∀e,e<bs.length->out (cj bs e).a<=out v->out (cj bs e).b<=out v->f' e=f e
section
variable {cnt:Nat} {bs:List PB} {out:Nat->Int} {f f':Nat->Int} {x v y:Nat}
theorem nh.start (h:∀i,i<bs.length->f i<=(cj bs i).s/\-(cj bs i).s<=f i):nh bs out f f x x:=⟨h,fun S=>by omega,fun _ _ _ _=>rfl⟩
theorem nh.step (h:nh bs out f f' x v) {e:Nat} (he:e<bs.length) (hi:Dj bs e v) (hr:0<fx bs f' e v) (hd:out (bQ bs e v)=out v-1):nh bs out f (sj bs f' e v) x (bQ bs e v):=by
 refine⟨fun i mC=>?_,fun S=>?_,fun i mC ha hb=>?_⟩
 ·have h1:=h.le i mC
  unfold sj
  by_cases E8:i=e
  ·subst E8
   rw[if_pos rfl]
   unfold fx at hr
   split at hr<;>rename_i hc
   ·rw[if_pos hc];omega
   ·rw[if_neg hc];omega
  ·rw[if_neg E8];omega
 ·rw[EJ he hi,h.cut S];omega
 ·have E8:i≠e:=by
   rintro rfl
   rcases hi with hi|hi
   ·rw[hi]at ha;omega
   ·rw[hi]at hb;omega
  unfold sj
  rw[if_neg E8,Int.add_zero]
  exact h.FE i mC (by omega) (by omega)
theorem nh.goes (h:nh bs out f f' x v) (hs:xl cnt bs f y out) (hv:v<cnt) (h0:0<out v):∃e∈iE bs bs.length v,0<fx bs f' e v/\out (bQ bs e v)=out v-1:=by
 obtain⟨e,h1,h2,h3,h4⟩:=hs.down v hv h0
 refine⟨e,qj.2 ⟨h1,h2⟩,?_,h4⟩
 have hf:f' e=f e:=by
  refine h.FE e h1 ?_ ?_
  ·unfold bQ at h4
   split at h4
   ·rename_i ha;rw[ha];exact Int.le_refl _
   ·omega
  ·unfold bQ at h4
   rcases h2 with h2|h2
   ·rw[if_pos h2]at h4;omega
   ·rw[h2];exact Int.le_refl _
 unfold fx at h3 ⊢
 rw[hf];exact h3
theorem nh.done {val:Int} (h:nh bs out f f' x y) (hf:jB bs f x y val):jB bs f' x y (val+1):=
 ⟨h.le,fun S hx hy=>by rw[h.cut S,hf.cut S hx hy,hx,hy];simp[bi]⟩
theorem C2 {val:Int} (hs:xl cnt bs f y out) (ok:ml cnt bs) (hf:jB bs f x y val) (hx:out x<0):∃S:Nat->Bool,S x=true/\S y=false/\val=iN S bs:=by
 refine⟨fun v=>decide (out v<0),decide_eq_true hx,decide_eq_false (by rw[hs.first];omega),hf.full (decide_eq_true hx) (decide_eq_false (by rw[hs.first];omega)) fun i hi mV=>⟨fun h1 h2 hr=>?_,fun h1 h2 hr=>?_⟩⟩
 ·have ON:=of_decide_eq_true h1
  have A7:=of_decide_eq_false h2
  have:=hs.shut i (cj bs i).a hi (.inl rfl) (by unfold bQ;rw[if_pos rfl];omega) hr
  omega
 ·have ON:=of_decide_eq_true h1
  have A7:=of_decide_eq_false h2
  have:=hs.shut i (cj bs i).b hi (.inr rfl) (by unfold bQ;rw[if_neg mV];omega) hr
  omega
end
theorem uN {bs:List PB} {f:Nat->Int} (dL:∀e,e<bs.length->0<=(cj bs e).s/\(cj bs e).s<=4) (h:∀i,i<bs.length->f i<=(cj bs i).s/\-(cj bs i).s<=f i):Small bs f:=fun e he=>by
 have:=dL e he;have:=h e he;omega
theorem pM.at_ {A:Id} {lo nx v:Nat} {L:List (List Nat)} {l:List Nat} {g:Rows} (h:pM A lo L g nx) (hv:L[v]? =some l) (hl:0<l.length):∃(rows:List (List AV)) (id:Id),g A=some ⟨true,1,rows⟩/\rows.length=L.length/\rows[v]? =some [.own id 0 l.length]/\g id=some ⟨true,1,l.map eN⟩/\lo<id.bt/\id.bt<nx:=by
 obtain⟨rows,ids,h1,h2,h3,h4⟩:=h
 have hk:v<L.length:=(List.getElem?_eq_some_iff.1 hv).1
 obtain⟨cs,ic,dp,hR,Pj⟩:=h2.at_ v hk
 rw[kg hv hk]at hR
 rcases hR with⟨h5,_⟩|⟨id,rfl,_,h6,rfl⟩
 ·subst h5;simp at hl
 ·have:=h4 id (Pj id (by simp))
  exact⟨rows,id,h1,h2.len,dp,h6,this.1,this.2⟩
theorem L7 (cnt:Nat) (hn:cnt<=1048576) (bs:List PB) (ok:ml cnt bs) (mM:bs.length<=1048576) (dL:∀e,e<bs.length->0<=(cj bs e).s/\(cj bs e).s<=4) (f:Nat->Int) (x y:Nat) (hx:x<cnt) (hy:y<cnt) (PK:x≠y) (val:Int) (hf:jB bs f x y val)
  (X A F:Id) (σ:ax) (nb:Nat) (hS:nf cnt bs f X A F σ.get nb) (nV:nb<=σ.next):
  Call Tryz.prog 252 [.ptr X 0 0,.int .i64 x,.int .i64 y] σ fun r σ'=>∃b f',r=.bool b/\nf cnt bs f' X A F σ'.get nb/\σ.next<=σ'.next/\(∀i:Id,i.bt<nb->(i=F)=False->σ'.get i=σ.get i)/\
   (b=false->f'=f/\∃S:Nat->Bool,S x=true/\S y=false/\val=iN S bs)/\(b=true->jB bs f' x y (val+1)):=by
 refine iq eE rfl fun hl=>?_
 clear hl
 have Bf:(x:Int)<(cnt:Int):=by omega
 have hz:∀(g:Rows),(∀i:Id,i.bt<nb->g i=σ.get i)->dj (eo g) 6 [.ptr X 0 0,.int .i64 (y:Int)]=some [.dd (fE cnt bs f),.int .i64 y]:=fun g hg=>by
  have:=(hS.frame hg (Nat.le_refl _)).fz
  simp only[aj,ar,this,aK,Option.map_some]
 (try((repeat(revert hN;revert N;apply Pn.out));refine wk @Nat.zero_add ?_;(repeat(refine Pn.mk ?_;intro N hN))))
 refine .inr (bL _ _ _ _ _ (fun r σ1 hq=>?_) ((Ef cnt hn bs ok mM f (uN dL hf.le) y hy).x mixed (hz _ (fun i hi=>rfl))))
 obtain⟨⟨out,rfl,ML⟩,rfl⟩:=hq
 refine hN _ _ ?_
 clear hN N
 have MC:=dH (f:=out) hx
 have tl:=dw out cnt
 by_cases jH:out x<0
 ·(try((repeat(revert hN;revert N;apply Pn.out));refine wk (tw @MC (tw @jH (tw @Bf (tw @tl @aA.eq_1)))) ?_;(repeat(refine Pn.mk ?_;intro N hN))))
  exact gQ (.inl rfl) (vs:=[.bool false]) (sd @Nat.zero_add) ⟨false,f,rfl,hS.frame (fun i hi=>rfl) (Nat.le_refl _),by(try dsimp only);omega,fun i _ _=>rfl,fun _=>⟨rfl,C2 ML ok hf jH⟩,fun h=>by cases h⟩
 (try((repeat(revert hN;revert N;apply Pn.out));refine wk (tw @MC (tw @jH (tw @Bf (tw @tl @aA.eq_1)))) ?_;(repeat(refine Pn.mk ?_;intro N hN))))
 refine aM (fun m env st=>∃(v:Nat) (f':Nat->Int),m=(out v).toNat/\v<cnt/\0<=out v/\env 8=.int .i64 (v:Int)/\nh bs out f f' x v/\nf cnt bs f' X A F st.get nb/\(∀i:Id,i.bt<nb->(i=F)=False->st.get i=σ.get i)/\σ.next<=st.next) (out x).toNat ⟨x,f,rfl,hx,by omega,by(simp only[go_sem, ↓reduceIte,Nat.reduceEqDiff,Nat.reduceAdd,Nat.reduceSub,Nat.reduceLeDiff,reduceCtorEq]),nh.start hf.le,hS.frame (fun i hi=>rfl) (Nat.le_refl _),fun i _ _=>rfl,by(try dsimp only);omega⟩ ?_
 rintro m env_b st_b ⟨v,f',rfl,hv,pq,b8,hW,hN1,ly,hle⟩ eP
 have b0:=eP 0 (by kernel_rfl)
 have b2:=eP 2 (by kernel_rfl)
 have b7:=eP 7 (by kernel_rfl)
 simp only[go_sem, ↓reduceIte,Nat.reduceEqDiff,Nat.reduceAdd,Nat.reduceSub,Nat.reduceLeDiff,reduceCtorEq]at b0 b2 b7
 clear eP
 by_cases Q9:v=y
 ·have hd:decide ((v:Int)=(y:Int))=true:=decide_eq_true (by rw[Q9])
  subst Q9
  (try((repeat(revert hN;revert N;apply Pn.out));refine wk (tw @b0 (tw @b2 (tw @b7 (tw @b8 @hd)))) ?_;(repeat(refine Pn.mk ?_;intro N hN))))
  exact gQ (.inl rfl) (vs:=[.bool true]) (sd @Nat.zero_add) ⟨true,f',rfl,hN1,by(try dsimp only);omega,ly,fun h=>(by cases h),fun _=>hW.done hf⟩
 have hd:decide ((v:Int)=(y:Int))=false:=decide_eq_false fun h=>Q9 (by omega)
 have yZ:0<out v:=by
  have:=ML.zero v hv
  rcases Int.lt_or_eq_of_le pq with h|h
  ·exact h
  ·exact absurd (this h.symm) Q9
 have K8:=hW.goes ML hv yZ
 have hIm:∀ed∈iE bs bs.length v,ed<bs.length/\Dj bs ed v:=fun ed h=>qj.1 h
 have hIL:(kR cnt bs bs.length)[v]? =some (iE bs bs.length v):=by simp[kR,hv]
 have hIl:=qi bs bs.length v
 generalize iE bs bs.length v=I at *
 have hIp:0<I.length:=by
  obtain⟨ed,h,_⟩:=K8
  exact List.length_pos_of_mem h
 obtain⟨rows,id,hgA,sZ,kY,hid,hid1,hid2⟩:=hN1.a.at_ hIL hIp
 rw[iX]at sZ
 have hgX:=hN1.x
 have Cn:(v:Int)<(cnt:Int):=by omega
 have sY:=dH (f:=out) hv
 have rn:IntKind.i64.wrap (out v-1)=out v-1:=bz (by have:=ML.lo v hv;omega)
 have pf:(I.map eN).length=I.length:=by simp
 have Gl:=uN dL hW.le
 have kQ:∀(g:Rows),(∀i:Id,i.bt<nb->g i=st_b.get i)->∀ed:Nat,dj (eo g) 6 [.ptr X 0 0,.int .i64 (v:Int),.int .i64 (ed:Int)]=some [.dd (fE cnt bs f'),.int .i64 v,.int .i64 ed]:=fun g hg ed=>by
  have:=(hN1.frame hg (Nat.le_refl _)).fz
  simp only[aj,ar,this,aK,Option.map_some]
 rw[aA]at sY
 (try((repeat(revert hN;revert N;apply Pn.out));refine wk (tw @b0 (tw @b2 (tw @b7 (tw @b8 @hd)))) ?_;(repeat(refine Pn.mk ?_;intro N hN))))
 refine aM (fun n env st=>∃k:Nat,n=(I.length)-k/\k<=(I.length)/\env 11=.int .i64 (k:Int)/\(∃(w8 Dt:Int),env 9=.int .i64 w8/\env 10=.int .i64 Dt/\((w8<0/\∀z,z<k->¬(0<fx bs f' (I.getD z 0) v/\out (bQ bs (I.getD z 0) v)=out v-1))∨∃ed:Nat,ed∈I/\Dt=(ed:Int)/\w8=(bQ bs ed v:Int)/\0<fx bs f' ed v/\out (bQ bs ed v)=out v-1))/\((∀i:Id,st.get i=st_b.get i)/\st_b.next<=st.next)) (I.length) ⟨0,by omega,by omega,sl (tw @b0 (tw @b2 (tw @b7 @b8))),⟨-1,0,by(simp only[go_sem, ↓reduceIte,Nat.reduceEqDiff,Nat.reduceAdd,Nat.reduceSub,Nat.reduceLeDiff,reduceCtorEq]),by(simp only[go_sem, ↓reduceIte,Nat.reduceEqDiff,Nat.reduceAdd,Nat.reduceSub,Nat.reduceLeDiff,reduceCtorEq]),.inl ⟨by omega,fun z hz=>by omega⟩⟩,⟨fun i=>rfl,by(try dsimp only);omega⟩⟩ ?_
 rintro n_c env_c st_c ⟨k,rfl,cle,mK,cI0,cI1⟩ il
 have c0:=il 0 (by kernel_rfl);have c2:=il 2 (by kernel_rfl);have c7:=il 7 (by kernel_rfl);have c8:=il 8 (by kernel_rfl)
 simp only[go_sem, ↓reduceIte,Nat.reduceEqDiff,Nat.reduceAdd,Nat.reduceSub,Nat.reduceLeDiff,reduceCtorEq,b0,b2,b7,b8]at c0 c2 c7 c8
 clear il
 obtain⟨w8,Dt,c9,je,Hl⟩:=cI0
 obtain⟨lz,QK⟩:=cI1
 have Cd:=(lz X).trans hgX
 have Cc:=(lz A).trans hgA
 have Cf:=(lz id).trans hid
 by_cases hk:(k:Int)<(I.length:Int)
 ·have fY:∀{e:Env} {gg:Rows} {nx:Nat},(e 11=.int .i64 (IntKind.i64.wrap ((k:Int)+1)))->(∃(w8 Dt:Int),e 9=.int .i64 w8/\e 10=.int .i64 Dt/\((w8<0/\∀z,z<(k+1)->¬(0<fx bs f' (I.getD z 0) v/\out (bQ bs (I.getD z 0) v)=out v-1))∨∃ed:Nat,ed∈I/\Dt=(ed:Int)/\w8=(bQ bs ed v:Int)/\0<fx bs f' ed v/\out (bQ bs ed v)=out v-1))->((∀i:Id,gg i=st_b.get i)/\st_b.next<=nx)->∃m0,m0<(I.length)-k/\∃k:Nat,m0=(I.length)-k/\k<=(I.length)/\e 11=.int .i64 (k:Int)/\(∃(w8 Dt:Int),e 9=.int .i64 w8/\e 10=.int .i64 Dt/\((w8<0/\∀z,z<k->¬(0<fx bs f' (I.getD z 0) v/\out (bQ bs (I.getD z 0) v)=out v-1))∨∃ed:Nat,ed∈I/\Dt=(ed:Int)/\w8=(bQ bs ed v:Int)/\0<fx bs f' ed v/\out (bQ bs ed v)=out v-1))/\((∀i:Id,gg i=st_b.get i)/\st_b.next<=nx):=fun x1 x2 x3=>⟨_,by omega,k+1,rfl,by omega,(by rw[x1,aB (by omega)]),x2,x3⟩
  have eV:k<I.length:=by omega
  have ev:(I.map eN)[k]? =some (eN (I.getD k 0)):=getD_map eN eV
  have oD:I.getD k 0∈I:=by rw[List.getD_eq_getElem?_getD,List.getElem?_eq_getElem eV];exact List.getElem_mem eV
  obtain⟨he,oC⟩:=hIm _ oD
  have Gk:=Ik cnt bs f' Gl (I.getD k 0) v he
  have ve:=kQ st_c.get (fun i _=>lz i) (I.getD k 0)
  have hq:=nH ok (v:=v) he
  have N5:=dH (f:=out) hq
  obtain⟨ed,hed⟩:∃ed,ed=I.getD k 0:=⟨_,rfl⟩
  rw[<-hed]at ev he oC Gk ve hq N5 oD
  rw[aA]at N5
  rw[eN]at ev
  (try((repeat(revert hN;revert N;apply Pn.out));refine wk (tw @mK (tw @c0 (tw @c2 (tw @c7 (tw @c8 (tw @c9 (tw @je (tw @hk (tw @Cd (tw @Cc (tw @Cf (tw @kY (tw @sZ (tw @Cn (tw @ev (tw @pf @br.eq_1)))))))))))))))) ?_;(repeat(refine Pn.mk ?_;intro N hN))))
  refine .inl ⟨_,aq.x Gk ve,?_⟩
  refine hN _ _ ?_
  clear hN N
  have stay:∀k',k'=k+1->(¬(0<fx bs f' ed v/\out (bQ bs ed v)=out v-1))->((w8<0/\∀z,z<k'->¬(0<fx bs f' (I.getD z 0) v/\out (bQ bs (I.getD z 0) v)=out v-1))∨∃ed:Nat,ed∈I/\Dt=(ed:Int)/\w8=(bQ bs ed v:Int)/\0<fx bs f' ed v/\out (bQ bs ed v)=out v-1):=fun k' Ht kN=>by
   rcases Hl with⟨h1,h2⟩|h
   ·refine .inl ⟨h1,fun z hz=>?_⟩
    by_cases Cp:z=k
    ·subst Cp;rw[<-hed];exact kN
    ·exact h2 z (by omega)
   ·exact .inr h
  by_cases hr:0<fx bs f' ed v
  ·by_cases NU:out (bQ bs ed v)=out v-1
   ·have oM:decide (out (bQ bs ed v)=out v-1)=true:=decide_eq_true NU
    have found:∃OG:Nat,OG∈I/\(ed:Int)=(OG:Int)/\(bQ bs ed v:Int)=(bQ bs OG v:Int)/\0<fx bs f' OG v/\out (bQ bs OG v)=out v-1:=⟨ed,oD,rfl,rfl,hr,NU⟩
    by_cases N3:w8<0
    ·(try((repeat(revert hN;revert N;apply Pn.out));refine wk (tw @mK (tw @c0 (tw @c2 (tw @c7 (tw @c8 (tw @c9 (tw @je (tw @hk (tw @Cd (tw @Cc (tw @Cf (tw @kY (tw @sZ (tw @Cn (tw @ev (tw @pf (tw @hr (tw @N5 (tw @sY (tw @rn (tw @oM (tw @N3 @br.eq_1)))))))))))))))))))))) ?_;(repeat(refine Pn.mk ?_;intro N hN))))
     exact fY (sd (tw @mK (tw @c0 (tw @c2 (tw @c7 @c8))))) (⟨_,_,sd @Nat.zero_add,sd @Nat.zero_add,.inr found⟩) (⟨lz,by(try dsimp only);omega⟩)
    ·by_cases dJ:(bQ bs ed v:Int)<w8
     ·(try((repeat(revert hN;revert N;apply Pn.out));refine wk (tw @mK (tw @c0 (tw @c2 (tw @c7 (tw @c8 (tw @c9 (tw @je (tw @hk (tw @Cd (tw @Cc (tw @Cf (tw @kY (tw @sZ (tw @Cn (tw @ev (tw @pf (tw @hr (tw @N5 (tw @sY (tw @rn (tw @oM (tw @N3 (tw @dJ @br.eq_1))))))))))))))))))))))) ?_;(repeat(refine Pn.mk ?_;intro N hN))))
      exact fY (sd (tw @mK (tw @c0 (tw @c2 (tw @c7 @c8))))) (⟨_,_,sd @Nat.zero_add,sd @Nat.zero_add,.inr found⟩) (⟨lz,by(try dsimp only);omega⟩)
     ·(try((repeat(revert hN;revert N;apply Pn.out));refine wk (tw @mK (tw @c0 (tw @c2 (tw @c7 (tw @c8 (tw @c9 (tw @je (tw @hk (tw @Cd (tw @Cc (tw @Cf (tw @kY (tw @sZ (tw @Cn (tw @ev (tw @pf (tw @hr (tw @N5 (tw @sY (tw @rn (tw @oM (tw @N3 (tw @dJ @br.eq_1))))))))))))))))))))))) ?_;(repeat(refine Pn.mk ?_;intro N hN))))
      exact fY (sd (tw @mK (tw @c0 (tw @c2 (tw @c7 @c8))))) (⟨w8,Dt,sd @c9,sd @je,by
       rcases Hl with⟨h1,_⟩|h
       ·exact absurd h1 N3
       ·exact .inr h⟩) (⟨lz,by(try dsimp only);omega⟩)
   ·have oM:decide (out (bQ bs ed v)=out v-1)=false:=decide_eq_false NU
    (try((repeat(revert hN;revert N;apply Pn.out));refine wk (tw @mK (tw @c0 (tw @c2 (tw @c7 (tw @c8 (tw @c9 (tw @je (tw @hk (tw @Cd (tw @Cc (tw @Cf (tw @kY (tw @sZ (tw @Cn (tw @ev (tw @pf (tw @hr (tw @N5 (tw @sY (tw @rn (tw @oM @br.eq_1))))))))))))))))))))) ?_;(repeat(refine Pn.mk ?_;intro N hN))))
    exact fY (sd (tw @mK (tw @c0 (tw @c2 (tw @c7 @c8))))) (⟨w8,Dt,sd @c9,sd @je,stay _ rfl fun h=>NU h.2⟩) (⟨lz,by(try dsimp only);omega⟩)
  ·(try((repeat(revert hN;revert N;apply Pn.out));refine wk (tw @mK (tw @c0 (tw @c2 (tw @c7 (tw @c8 (tw @c9 (tw @je (tw @hk (tw @Cd (tw @Cc (tw @Cf (tw @kY (tw @sZ (tw @Cn (tw @ev (tw @pf (tw @hr @br.eq_1))))))))))))))))) ?_;(repeat(refine Pn.mk ?_;intro N hN))))
   exact fY (sd (tw @mK (tw @c0 (tw @c2 (tw @c7 @c8))))) (⟨w8,Dt,sd @c9,sd @je,stay _ rfl fun h=>hr h.1⟩) (⟨lz,by(try dsimp only);omega⟩)
 ·have jy:k=I.length:=by omega
  have Sx:∃ed:Nat,ed∈I/\Dt=(ed:Int)/\w8=(bQ bs ed v:Int)/\0<fx bs f' ed v/\out (bQ bs ed v)=out v-1:=by
   rcases Hl with⟨h1,h2⟩|h
   ·exfalso
    obtain⟨ed,he,hq⟩:=K8
    obtain⟨z,hz,rfl⟩:=List.getElem_of_mem he
    refine h2 z (by omega) ?_
    rw[List.getD_eq_getElem?_getD,List.getElem?_eq_getElem hz];exact hq
   ·exact h
  obtain⟨ed,oD,rfl,rfl,hr,NU⟩:=Sx
  obtain⟨he,oC⟩:=hIm _ oD
  (try((repeat(revert hN;revert N;apply Pn.out));refine wk (tw @mK (tw @c0 (tw @c2 (tw @c7 (tw @c8 (tw @c9 (tw @je (tw @hk (tw @Cd (tw @Cc (tw @Cf (tw @kY (tw @sZ (tw @Cn (tw @pf @br.eq_1))))))))))))))) ?_;(repeat(refine Pn.mk ?_;intro N hN))))
  refine .inr (bL _ _ _ _ _ (fun r σ1 hq=>?_) (M9 cnt bs f' Gl ed v he X A F ⟨st_c.get,_⟩ nb (hN1.frame (fun i _=>lz i) (Nat.le_refl _)) (by(try dsimp only);omega)))
  obtain⟨QE,lW,Hq⟩:=hq
  (try dsimp only at lW Hq)
  refine hN _ _ ?_
  clear hN N
  (try((repeat(revert hN;revert N;apply Pn.out));refine wk (tw @mK (tw @c0 (tw @c2 (tw @c7 (tw @c8 @c9))))) ?_;(repeat(refine Pn.mk ?_;intro N hN))))
  refine⟨_,?_,bQ bs ed v,sj bs f' ed v,rfl,nH ok he,by omega,sd @Nat.zero_add,hW.step he oC hr NU,QE,fun i hi hF=>by rw[Hq i hF,lz i,ly i hi hF],by(try dsimp only);omega⟩
  omega
def rQ (P:Program) (f:Nat) (args:List AV) (R:AV->Prop):Prop:=∀σ:ax,Call P f args ⟨V.ro σ.get,σ.next⟩ fun r0 σ'=>∃r',V.fz σ'.get 6 r0=some r'/\R r'
theorem BU {P:Program} {f:Nat} {args:List AV} {g:Rows} {n:Nat} {R:AV->Prop} (h:Sound P f args ⟨V.ro g,n⟩ fun r0 σ'=>∃r',V.fz σ'.get 6 r0=some r'/\R r'):Sound P f args ⟨g,n⟩ fun r σ'=>R r/\σ'=⟨g,n⟩:=by
 intro hs D ι w vs S U A
 refine(za (g0:=g) (K:=R) h (fun _ _ h=>h) S U A).mono ?_
 rintro e w' ⟨r,D',u,rfl,hR,T,S',hr⟩
 exact⟨r,g,n,D',ι,u,rfl,⟨hR,rfl⟩,T,S',U,Nat.le_refl _,hr⟩
theorem rQ.x {P:Program} (hm:P.follows .mixedOrders=true) {f:Nat} {args:List AV} {R:AV->Prop} (h:rQ P f args R) {σ:ax}:Call P f args σ fun r σ'=>R r/\σ'=σ:=
 fR (BU (iA hm (h σ)))
theorem rQ.body {P:Program} {f:Nat} {args:List AV} {R:AV->Prop} {nt na:Nat} {body:VC} {res:List ox} (hf:mU P f=some ⟨nt,na,body,res⟩) (ha:na=args.length) (h:(∀a∈args,eG a)->∀σ:ax,ej (Call P) body (lf res fun r0 σ'=>∃r',V.fz σ'.get 6 r0=some r'/\R r') (bZ args) ⟨V.ro σ.get,σ.next⟩):rQ P f args R:=fun σ=>lq hf ha fun hl=>h hl σ
theorem Kd {g:Rows} {rows:List (List AV)} {xs:List (List Nat)} {ids:List Id} (n:Nat) (h:eM NM g rows xs ids):eh g (n+2) rows=some (xs.map fun l=>[Nh l]):=by
 induction h with
 |nil=>rw[eh];rfl
 |cons h1 _ ih=>
  rename_i x _ _ _ _ _
  rcases h1 with⟨h0,h1,_⟩|⟨id,h1,h0,h2,_⟩
  ·subst h0 h1;rw[eh,ih,aj,ar,aQ];rfl
  ·have gM:x≠[]:=by rintro rfl;simp at h0
   subst h1
   rw[eh,ih,aj,ar,gO (e:=eN) (sz:=1) h2 rfl fun a=>fzN _ n a]
   simp[Nh,gM]
theorem nf.fz0 {cnt:Nat} {bs:List PB} {f:Nat->Int} {X A F:Id} {g:Rows} {nx:Nat} (h:nf cnt bs f X A F g nx):V.fz g 5 (.ptr X 0 0)=some (.dd (fE cnt bs f)):=by
 have hf:V.fz g 4 (.own F 0 bs.length)=some (.sl (dP f bs.length)):=by
  rw[iv]
  simp only[h.f,if_true]
  rw[if_pos (by rw[dw];omega),List.drop_zero,List.take_of_length_le (by rw[dw];omega),yK];rfl
 have ha:V.fz g 4 (.own A 0 cnt)=some (.sl (oX cnt bs bs.length)):=by
  obtain⟨rows,ids,h1,h2,_,_⟩:=h.a
  have hl:=h2.len
  rw[iX]at hl
  rw[iv]
  simp only[h1,if_true]
  rw[if_pos (by omega),List.drop_zero,List.take_of_length_le (by omega),Kd 1 h2]
  simp[kR,oX]
 rw[aU]
 simp only[h.x,if_true,List.getElem?_cons_zero,List.drop_zero,br,aj,ar,aK,bW,ha,hf,Option.map_some,fE]
theorem Du {S:Nat->Bool}:∀bs:List PB,(∀b∈bs,b.s<=4)->iN S bs<=4*bs.length
 |[],_=>by simp[iN]
 |b::bs,h=>by
  rw[qY]
  have:=Du (S:=S) bs fun x hx=>h x (List.mem_cons_of_mem _ hx)
  have:=h b (by simp)
  simp only[List.length_cons]
  split<;>omega
theorem jB.zero {bs:List PB} {x y:Nat} (h:∀e,e<bs.length->0<=(cj bs e).s/\(cj bs e).s<=4):jB bs (fun _=>0) x y 0:=
 ⟨fun i hi=>by have:=h i hi;omega,fun S _ _=>jv fun i _=>by simp⟩
theorem Jj {bs:List PB} {b:PB} (h:b∈bs):∃e,e<bs.length/\cj bs e=b:=by
 obtain⟨e,he,rfl⟩:=List.getElem_of_mem h
 exact⟨e,he,by simp[cj,List.getD_eq_getElem?_getD,he]⟩
theorem Fs (cnt:Nat) (hn:cnt<=1048576) (bs:List PB) (ok:ml cnt bs) (mM:bs.length<=1048576) (dL:∀e,e<bs.length->0<=(cj bs e).s/\(cj bs e).s<=4) (x y:Nat) (hx:x<cnt) (hy:y<cnt) (PK:x≠y):
  rQ Tryz.prog 193 [.int .i64 cnt,.sl (bs.map ay),.int .i64 x,.int .i64 y] fun r=>∃f val,r=.im [.dd (fE cnt bs f),.int .i64 val]/\jB bs f x y val/\∃S:Nat->Bool,S x=true/\S y=false/\val=iN S bs:=by
 refine rQ.body eE rfl fun hl σ=>?_
 clear hl
 (try((repeat(revert hN;revert N;apply Pn.out));refine wk @Nat.zero_add ?_;(repeat(refine Pn.mk ?_;intro N hN))))
 refine .inr (bL _ _ _ _ _ (fun r σ1 hq=>?_) (HK cnt hn bs ok mM _))
 obtain⟨X,A,F,rfl,hX,hS⟩:=hq
 refine hN _ _ ?_
 clear hN N
 have hS0:∀f val,jB bs f x y val->val<=iN (fun v=>decide (v=x)) bs:=fun f val hf=>hf.bound (decide_eq_true rfl) (decide_eq_false fun h=>PK h.symm)
 have z6:=Du (S:=fun v=>decide (v=x)) bs fun b hb=>by
  obtain⟨e,he,rfl⟩:=Jj hb
  exact(dL e he).2
 generalize iN (fun v=>decide (v=x)) bs=T at *
 (try((repeat(revert hN;revert N;apply Pn.out));refine wk @Nat.zero_add ?_;(repeat(refine Pn.mk ?_;intro N hN))))
 refine aM (fun m env st=>∃(f:Nat->Int) (val:Int),m=(T-val).toNat/\0<=val/\env 10=.ptr X 0 0/\env 11=.int .i64 val/\jB bs f x y val/\nf cnt bs f X A F st.get σ1.next/\σ1.next<=st.next) T.toNat ⟨_,0,by simp,by omega,by(simp only[go_sem, ↓reduceIte,Nat.reduceEqDiff,Nat.reduceAdd,Nat.reduceSub,Nat.reduceLeDiff,reduceCtorEq]),by(simp only[go_sem, ↓reduceIte,Nat.reduceEqDiff,Nat.reduceAdd,Nat.reduceSub,Nat.reduceLeDiff,reduceCtorEq]),jB.zero dL,hS.frame (fun i hi=>rfl) (Nat.le_refl _),by(try dsimp only);omega⟩ ?_
 rintro m env_b st_b ⟨f,val,rfl,pq,b10,b11,hf,hN1,hle⟩ eP
 have b2:=eP 2 (by kernel_rfl)
 have b3:=eP 3 (by kernel_rfl)
 simp only[go_sem, ↓reduceIte,Nat.reduceEqDiff,Nat.reduceAdd,Nat.reduceSub,Nat.reduceLeDiff,reduceCtorEq]at b2 b3
 clear eP
 (try((repeat(revert hN;revert N;apply Pn.out));refine wk (tw @b2 (tw @b3 @b10)) ?_;(repeat(refine Pn.mk ?_;intro N hN))))
 refine .inr (bL _ _ _ _ _ (fun r σ2 hq=>?_) (L7 cnt hn bs ok mM dL f x y hx hy PK val hf X A F ⟨st_b.get,_⟩ σ1.next hN1 (by(try dsimp only);omega)))
 obtain⟨b,f',rfl,QE,lW,_,kN,Tc⟩:=hq
 (try dsimp only at lW)
 refine hN _ _ ?_
 clear hN N
 cases b with
 |true=>
  have jo:=Tc rfl
  have DN:=hS0 _ _ hf
  have B6:=hS0 _ _ jo
  have hw:IntKind.i64.wrap (val+1)=val+1:=bz (by omega)
  (try((repeat(revert hN;revert N;apply Pn.out));refine wk (tw @b10 (tw @b11 @hw)) ?_;(repeat(refine Pn.mk ?_;intro N hN))))
  exact⟨_,by omega,f',val+1,rfl,by omega,sd @b10,sd (tw @b11 @hw),jo,QE,by(try dsimp only);omega⟩
 |false=>
  obtain⟨rfl,S,h1,h2,h3⟩:=kN rfl
  (try((repeat(revert hN;revert N;apply Pn.out));refine wk (tw @b10 @b11) ?_;(repeat(refine Pn.mk ?_;intro N hN))))
  have hz:=QE.fz0
  exact⟨[.ptr X 0 0,.int .i64 val],sd @Nat.zero_add,.im [.dd (fE cnt bs f'),.int .i64 val],by simp only[eH,bI,aj,ar,hz,aK,Option.map_some],f',val,rfl,hf,S,h1,h2,h3⟩
theorem Ft (cnt:Nat) (hn:cnt<=1048576) (bs:List PB) (ok:ml cnt bs) (mM:bs.length<=1048576) (f:Nat->Int) (hs:Small bs f) (y:Nat) (hy:y<cnt):
  mj Tryz.prog 194 [.dd (fE cnt bs f),.int .i64 y] fun r=>∃l:List Nat,r=.sl (l.map eN)/\l.length<=cnt:=by
 refine mj.body eE rfl fun hl n0=>?_
 clear hl
 have hz:∀g:Rows,dj (eo g) 6 [.dd (fE cnt bs f),.int .i64 (y:Int)]=some [.dd (fE cnt bs f),.int .i64 y]:=fun g=>by simp only[aj,ar,aN,aK,Option.map_some]
 (try((repeat(revert hN;revert N;apply Pn.out));refine wk @Nat.zero_add ?_;(repeat(refine Pn.mk ?_;intro N hN))))
 refine .inr (bL _ _ _ _ _ (fun r σ1 hq=>?_) ((Ef cnt hn bs ok mM f hs y hy).x mixed (hz _)))
 obtain⟨⟨out,rfl,ML⟩,rfl⟩:=hq
 refine hN _ _ ?_
 clear hN N
 (try((repeat(revert hN;revert N;apply Pn.out));refine wk @fE.eq_1 ?_;(repeat(refine Pn.mk ?_;intro N hN))))
 refine aM (fun n env st=>∃k:Nat,n=(cnt)-k/\k<=(cnt)/\env 7=.int .i64 (k:Int)/\(∃(o:Id) (l:List Nat),env 6=.own o 0 l.length/\st.get o=some ⟨true,1,l.map eN⟩/\o.bt<st.next/\l.length<=k)) (cnt) ⟨0,by omega,by omega,sl @fE.eq_1,⟨⟨194002000,n0+1+1+1⟩,[],by(simp only[go_sem, ↓reduceIte,Nat.reduceEqDiff,Nat.reduceAdd,Nat.reduceSub,Nat.reduceLeDiff,reduceCtorEq])<;>rfl,by(simp only[go_sem, ↓reduceIte,Nat.reduceEqDiff,Nat.reduceAdd,Nat.reduceSub,Nat.reduceLeDiff,reduceCtorEq])<;>rfl,by(try dsimp only);omega,by simp⟩⟩ ?_
 rintro n_a env_a st_a ⟨k,rfl,ale,a7,mE⟩ dq
 have a0:=dq 0 (by kernel_rfl);have a5:=dq 5 (by kernel_rfl)
 simp only[go_sem, ↓reduceIte,Nat.reduceEqDiff,Nat.reduceAdd,Nat.reduceSub,Nat.reduceLeDiff,reduceCtorEq,fE]at a0 a5
 clear dq
 obtain⟨o,l,a6,ag,sY,JK⟩:=mE
 have pq:=ef sY
 have gm:(l.map eN).length=l.length:=by simp
 by_cases hk:(k:Int)<(cnt:Int)
 ·have cE:∀{e:Env} {gg:Rows} {nx:Nat},(e 7=.int .i64 (IntKind.i64.wrap ((k:Int)+1)))->(∃(o:Id) (l:List Nat),e 6=.own o 0 l.length/\gg o=some ⟨true,1,l.map eN⟩/\o.bt<nx/\l.length<=(k+1))->∃m0,m0<(cnt)-k/\∃k:Nat,m0=(cnt)-k/\k<=(cnt)/\e 7=.int .i64 (k:Int)/\(∃(o:Id) (l:List Nat),e 6=.own o 0 l.length/\gg o=some ⟨true,1,l.map eN⟩/\o.bt<nx/\l.length<=k):=fun x1 x2=>⟨_,by omega,k+1,rfl,by omega,(by rw[x1,aB (by omega)]),x2⟩
  have tV:=dH (f:=out) (show k<cnt by omega)
  rw[aA]at tV
  have e1:l.length+1<=16777216:=by omega
  by_cases h0:0<=out k
  ·(try((repeat(revert hN;revert N;apply Pn.out));refine wk (tw @a7 (tw @a0 (tw @a5 (tw @a6 (tw @ag (tw @pq (tw @hk (tw @tV (tw @h0 (tw @e1 (tw @gm @fE.eq_1))))))))))) ?_;(repeat(refine Pn.mk ?_;intro N hN))))
   exact cE (sd (tw @a7 (tw @a0 (tw @a5 @fE.eq_1)))) (⟨⟨194007003,st_a.next+1+1⟩,l++[k],by rw[List.length_append];simp only[go_sem, ↓reduceIte,Nat.reduceEqDiff,Nat.reduceAdd,Nat.reduceSub,Nat.reduceLeDiff,reduceCtorEq,List.length_cons,List.length_nil],by rw[List.map_append,List.map_cons,List.map_nil];simp only[go_sem, ↓reduceIte,Nat.reduceEqDiff,Nat.reduceAdd,Nat.reduceSub,Nat.reduceLeDiff,reduceCtorEq,eN],by(try dsimp only);omega,by simp;omega⟩)
  ·(try((repeat(revert hN;revert N;apply Pn.out));refine wk (tw @a7 (tw @a0 (tw @a5 (tw @a6 (tw @ag (tw @pq (tw @hk (tw @tV (tw @h0 (tw @gm @fE.eq_1)))))))))) ?_;(repeat(refine Pn.mk ?_;intro N hN))))
   exact cE (sd (tw @a7 (tw @a0 (tw @a5 @fE.eq_1)))) (⟨o,l,sd @a6,sd @ag,by(try dsimp only);omega,by omega⟩)
 ·(try((repeat(revert hN;revert N;apply Pn.out));refine wk (tw @a7 (tw @a0 (tw @a5 (tw @a6 (tw @hk @fE.eq_1))))) ?_;(repeat(refine Pn.mk ?_;intro N hN))))
  have rh:fV st_a.get 6 (.own o 0 l.length)=some (.sl (l.map eN)):=fw ag rfl fun b=>L5 _ 4 b
  exact⟨_,rfl,_,by simp only[go_sem, ↓reduceIte,Nat.reduceEqDiff,Nat.reduceAdd,Nat.reduceSub,Nat.reduceLeDiff,reduceCtorEq,eH];exact rh,l,rfl,by omega⟩
theorem An (v1 v2:Int) (l1 l2:List Nat) (h1:l1.length<=1048576) (h2:l2.length<=1048576):
  mj Tryz.prog 195 [.int .i64 v1,.sl (l1.map eN),.int .i64 v2,.sl (l2.map eN)] fun r=>∃b,r=.bool b/\(v1<v2->b=true)/\(v2<v1->b=false):=by
 refine mj.body eE rfl fun hl n0=>?_
 clear hl
 have ret:∀{t:Nat} {env:Env} {σ:ax} {b:Bool} {x:Ex},(x=.ret∨x=.normal)->env t=.bool b->((v1<v2->b=true)/\(v2<v1->b=false))->lf [.tmp t] (fun r0 σ'=>∃r',fV σ'.get 6 r0=some r'/\∃b,r'=.bool b/\(v1<v2->b=true)/\(v2<v1->b=false)) x env σ:=by
  intro t env σ b x hx he hb
  have:∃vs,e6 env σ.get [.tmp t]=some vs/\∃r',fV σ.get 6 (eH vs)=some r'/\∃b,r'=.bool b/\(v1<v2->b=true)/\(v2<v1->b=false):=⟨[env t],rfl,.bool b,by rw[he];exact fB _ _ _,b,rfl,hb⟩
  rcases hx with rfl|rfl
  ·exact this
  ·exact this
 have m1:(l1.map eN).length=l1.length:=by simp
 have m2:(l2.map eN).length=l2.length:=by simp
 by_cases hv:v1=v2
 ·have hd:decide (v1=v2)=true:=decide_eq_true hv
  by_cases JK:(l1.length:Int)=(l2.length:Int)
  ·have oM:decide ((l1.length:Int)=(l2.length:Int))=true:=decide_eq_true JK
   have Sn:decide (l1.length=l2.length)=true:=decide_eq_true (by omega)
   (try((repeat(revert hN;revert N;apply Pn.out));refine wk (tw @hd (tw @oM (tw @Sn (tw @m1 @m2)))) ?_;(repeat(refine Pn.mk ?_;intro N hN))))
   refine aM (fun n env st=>∃k:Nat,n=(l1.length)-k/\k<=(l1.length)/\env 9=.int .i64 (k:Int)) (l1.length) ⟨0,by omega,by omega,sl @Nat.zero_add⟩ ?_
   rintro n_a env_a st_a ⟨k,rfl,ale,a9⟩ dq
   have a1:=dq 1 (by kernel_rfl);have a3:=dq 3 (by kernel_rfl)
   simp only[go_sem, ↓reduceIte,Nat.reduceEqDiff,Nat.reduceAdd,Nat.reduceSub,Nat.reduceLeDiff,reduceCtorEq]at a1 a3
   clear dq
   by_cases hk:(k:Int)<(l1.length:Int)
   ·have cE:∀{e:Env},(e 9=.int .i64 (IntKind.i64.wrap ((k:Int)+1)))->∃m0,m0<(l1.length)-k/\∃k:Nat,m0=(l1.length)-k/\k<=(l1.length)/\e 9=.int .i64 (k:Int):=fun x1=>⟨_,by omega,k+1,rfl,by omega,(by rw[x1,aB (by omega)])⟩
    have g1:(l1.map eN)[k]? =some (eN (l1.getD k 0)):=getD_map eN (by omega)
    have g2:(l2.map eN)[k]? =some (eN (l2.getD k 0)):=getD_map eN (by omega)
    rw[eN]at g1 g2
    by_cases he:((l1.getD k 0:Nat):Int)=((l2.getD k 0:Nat):Int)
    ·have O7:decide (((l1.getD k 0:Nat):Int)=((l2.getD k 0:Nat):Int))=true:=decide_eq_true he
     have Sp:decide (l1.getD k 0=l2.getD k 0)=true:=decide_eq_true (by omega)
     (try((repeat(revert hN;revert N;apply Pn.out));refine wk (tw @a9 (tw @a1 (tw @a3 (tw @hk (tw @m1 (tw @g1 (tw @g2 (tw @O7 @Sp)))))))) ?_;(repeat(refine Pn.mk ?_;intro N hN))))
     exact cE (sd (tw @a9 (tw @a1 @a3)))
    ·have O7:decide (((l1.getD k 0:Nat):Int)=((l2.getD k 0:Nat):Int))=false:=decide_eq_false he
     have Sp:decide (l1.getD k 0=l2.getD k 0)=false:=decide_eq_false (by omega)
     (try((repeat(revert hN;revert N;apply Pn.out));refine wk (tw @a9 (tw @a1 (tw @a3 (tw @hk (tw @m1 (tw @g1 (tw @g2 (tw @O7 @Sp)))))))) ?_;(repeat(refine Pn.mk ?_;intro N hN))))
     exact ret (.inl rfl) (by simp only[go_sem, ↓reduceIte,Nat.reduceEqDiff,Nat.reduceAdd,Nat.reduceSub,Nat.reduceLeDiff,reduceCtorEq];rfl) ⟨fun h=>by omega,fun h=>by omega⟩
   ·(try((repeat(revert hN;revert N;apply Pn.out));refine wk (tw @a9 (tw @a1 (tw @a3 (tw @hk @m1)))) ?_;(repeat(refine Pn.mk ?_;intro N hN))))
    exact ret (b:=false) (.inl rfl) (sd @Nat.zero_add) ⟨fun h=>by omega,fun h=>by omega⟩
  ·have oM:decide ((l1.length:Int)=(l2.length:Int))=false:=decide_eq_false JK
   have Sn:decide (l1.length=l2.length)=false:=decide_eq_false (by omega)
   (try((repeat(revert hN;revert N;apply Pn.out));refine wk (tw @hd (tw @oM (tw @Sn (tw @m1 @m2)))) ?_;(repeat(refine Pn.mk ?_;intro N hN))))
   exact ret (.inl rfl) (by simp only[go_sem, ↓reduceIte,Nat.reduceEqDiff,Nat.reduceAdd,Nat.reduceSub,Nat.reduceLeDiff,reduceCtorEq];rfl) ⟨fun h=>by omega,fun h=>by omega⟩
 ·have hd:decide (v1=v2)=false:=decide_eq_false hv
  (try((repeat(revert hN;revert N;apply Pn.out));refine wk @hd ?_;(repeat(refine Pn.mk ?_;intro N hN))))
  exact ret (b:=decide (v1<v2)) (.inl rfl) (sd @Nat.zero_add) ⟨fun h=>decide_eq_true h,fun h=>decide_eq_false (by omega)⟩
def td (bs:List PB) (cnt:Nat) (iT:Int) (k:Nat):Prop:=(k=1/\iT= -1)∨(0<=iT/\(∀z,1<=z->z<k->∀S:Nat->Bool,S 0=true->S z=false->iT<=iN S bs)/\∃S:Nat->Bool,S 0=true/\(∃z,z<cnt/\S z=false)/\iT=iN S bs)
theorem jB.nn {bs:List PB} {val:Int} {S:Nat->Bool} (dL:∀e,e<bs.length->0<=(cj bs e).s/\(cj bs e).s<=4) (h:val=iN S bs):0<=val:=by
 rw[h,tA]
 have:=qC (f:=fun _=>0) (g:=fun i=>if S (cj bs i).a=S (cj bs i).b then 0 else(cj bs i).s) (n:=bs.length) fun i hi=>by
  have:=dL i hi
  split<;>omega
 rw[jv fun _ _=>rfl]at this
 exact this
theorem td.done {bs:List PB} {cnt:Nat} {iT:Int} (hc:2<=cnt) (h:td bs cnt iT cnt) (t:Int):t<=iT↔kb cnt bs t:=by
 rcases h with⟨h,_⟩|⟨_,h1,S,h2,⟨z,hz,kQ⟩,h3⟩
 ·omega
 ·constructor
  ·intro ht S h0 ⟨y,hy,hy2⟩
   have:y≠0:=by rintro rfl;rw[h0]at hy2;cases hy2
   have:=h1 y (by omega) hy S h0 hy2
   omega
  ·intro hH
   rw[h3];exact hH S h2 ⟨z,hz,kQ⟩
theorem xY (cnt:Nat) (h2:2<=cnt) (hn:cnt<=1048576) (bs:List PB) (ok:ml cnt bs) (mM:bs.length<=1048576) (dL:∀e,e<bs.length->0<=(cj bs e).s/\(cj bs e).s<=4):
  rQ Tryz.prog 126 [.int .i64 cnt,.sl (bs.map ay)] fun r=>∃iT p,r=.im [.int .i64 iT,p]/\∀t:Int,t<=iT↔kb cnt bs t:=by
 refine rQ.body eE rfl fun hl σ=>?_
 clear hl
 (try((repeat(revert hN;revert N;apply Pn.out));refine wk @Nat.zero_add ?_;(repeat(refine Pn.mk ?_;intro N hN))))
 have z0:∀(g:Rows) (id:Id),g id=some ⟨true,1,[]⟩->V.fz (eo g) 6 (.own id 0 0)=some (.sl (([]:List Nat).map eN))/\V.fz g 5 (.own id 0 0)=some (.sl (([]:List Nat).map eN)):=fun g id h=>by
  have h':eo g id=some ⟨true,1,[]⟩:=by simp[eo,h]
  constructor
  ·rw[iv];simp only[h',if_true];rw[if_pos (by simp)];simp[nw]
  ·rw[iv];simp only[h,if_true];rw[if_pos (by simp)];simp[nw]
 refine aM (fun m env st=>∃(k:Nat) (iT:Int) (l:List Nat) (p:AV),m=cnt-k/\1<=k/\k<=cnt/\env 8=.int .i64 (k:Int)/\env 6=.int .i64 iT/\env 7=p/\V.fz (eo st.get) 6 p=some (.sl (l.map eN))/\V.fz st.get 5 p=some (.sl (l.map eN))/\l.length<=cnt/\td bs cnt iT k) (cnt-1) ⟨1,-1,[],.own ⟨126002000,σ.next+1+1⟩ 0 0,rfl,by omega,by omega,by(simp only[go_sem, ↓reduceIte,Nat.reduceEqDiff,Nat.reduceAdd,Nat.reduceSub,Nat.reduceLeDiff,reduceCtorEq])<;>rfl,by(simp only[go_sem, ↓reduceIte,Nat.reduceEqDiff,Nat.reduceAdd,Nat.reduceSub,Nat.reduceLeDiff,reduceCtorEq])<;>rfl,by(simp only[go_sem, ↓reduceIte,Nat.reduceEqDiff,Nat.reduceAdd,Nat.reduceSub,Nat.reduceLeDiff,reduceCtorEq])<;>rfl,(z0 _ _ (sd @Nat.zero_add)).1,(z0 _ _ (sd @Nat.zero_add)).2,by simp,.inl ⟨rfl,rfl⟩⟩ ?_
 rintro m env_b st_b ⟨k,iT,l,p,rfl,ph,rl,b8,b6,b7,wP,kQ,hl,hB⟩ eP
 have b0:=eP 0 (by kernel_rfl)
 have b1:=eP 1 (by kernel_rfl)
 simp only[go_sem, ↓reduceIte,Nat.reduceEqDiff,Nat.reduceAdd,Nat.reduceSub,Nat.reduceLeDiff,reduceCtorEq]at b0 b1
 clear eP z0
 by_cases hk:(k:Int)<(cnt:Int)
 ·have eV:k<cnt:=by omega
  have hFl:=Fs cnt hn bs ok mM dL 0 k (by omega) eV (by omega)
  rw[show(((0:Nat):Int))=0 from rfl]at hFl
  (try((repeat(revert hN;revert N;apply Pn.out));refine wk (tw @b0 (tw @b1 (tw @b6 (tw @b7 (tw @b8 @hk))))) ?_;(repeat(refine Pn.mk ?_;intro N hN))))
  refine .inr (bL _ _ _ _ _ (fun r σ1 hq=>?_) (hFl.x mixed))
  obtain⟨⟨f,val,rfl,hf,S,Mj,JD,QG⟩,rfl⟩:=hq
  refine hN _ _ ?_
  clear hN N
  have Gl:=uN dL hf.le
  have qg:=jB.nn (val:=val) dL QG
  (try((repeat(revert hN;revert N;apply Pn.out));refine wk (tw @b0 (tw @b1 (tw @b6 (tw @b7 @b8)))) ?_;(repeat(refine Pn.mk ?_;intro N hN))))
  refine .inr (bL _ _ _ _ _ (fun r σ1 hq=>?_) ((Ft cnt hn bs ok mM f Gl k eV).x mixed (by simp only[aj,ar,aN,aK,Option.map_some])))
  obtain⟨⟨l',rfl,I4⟩,rfl⟩:=hq
  refine hN _ _ ?_
  clear hN N
  have hw:IntKind.i64.wrap ((k:Int)+1)=((k+1:Nat):Int):=aB (by omega)
  have Qa:(∀z,1<=z->z<k->∀S:Nat->Bool,S 0=true->S z=false->val<=iN S bs)->td bs cnt val (k+1):=fun h=>.inr ⟨qg,fun z wP kQ S' h0 h1=>by
   by_cases ve:z=k
   ·subst ve;exact hf.bound h0 h1
   ·exact h z wP (by omega) S' h0 h1,S,Mj,⟨k,eV,JD⟩,QG⟩
  by_cases jH:iT<0
  ·have uY:k=1:=by
    rcases hB with⟨h,_⟩|⟨h,_⟩
    ·exact h
    ·omega
   (try((repeat(revert hN;revert N;apply Pn.out));refine wk (tw @b0 (tw @b1 (tw @b6 (tw @b7 (tw @b8 (tw @jH @hw)))))) ?_;(repeat(refine Pn.mk ?_;intro N hN))))
   refine⟨_,?_,k+1,val,l',.sl (l'.map eN),rfl,by omega,by omega,sd (tw @b8 @hw),sd @Nat.zero_add,sd @Nat.zero_add,bW _ _ _,bW _ _ _,I4,Qa fun z h1 h2=>by omega⟩
   omega
  ·have uY:(∀z,1<=z->z<k->∀S:Nat->Bool,S 0=true->S z=false->iT<=iN S bs)/\∃S:Nat->Bool,S 0=true/\(∃z,z<cnt/\S z=false)/\iT=iN S bs:=by
    rcases hB with⟨_,h⟩|⟨_,h⟩
    ·omega
    ·exact h
   (try((repeat(revert hN;revert N;apply Pn.out));refine wk (tw @b0 (tw @b1 (tw @b6 (tw @b7 (tw @b8 (tw @jH @hw)))))) ?_;(repeat(refine Pn.mk ?_;intro N hN))))
   refine .inr (bL _ _ _ _ _ (fun r σ1 hq=>?_) ((An val iT l' l (by omega) (by omega)).x mixed (by simp only[aj,ar,bW,aK,wP,Option.map_some])))
   obtain⟨⟨b,rfl,DN,B6⟩,rfl⟩:=hq
   refine hN _ _ ?_
   clear hN N
   cases b with
   |true=>
    have Oa:val<=iT:=by
     rcases Int.lt_or_le iT val with h|h
     ·exact absurd (B6 h) (by simp)
     ·exact h
    (try((repeat(revert hN;revert N;apply Pn.out));refine wk (tw @b0 (tw @b1 (tw @b6 (tw @b7 (tw @b8 @hw))))) ?_;(repeat(refine Pn.mk ?_;intro N hN))))
    refine⟨_,?_,k+1,val,l',.sl (l'.map eN),rfl,by omega,by omega,sd (tw @b8 @hw),sd @Nat.zero_add,sd @Nat.zero_add,bW _ _ _,bW _ _ _,I4,Qa fun z h1 h2 S' h3 h4=>by have:=uY.1 z h1 h2 S' h3 h4;omega⟩
    omega
   |false=>
    have Oa:iT<=val:=by
     rcases Int.lt_or_le val iT with h|h
     ·exact absurd (DN h) (by simp)
     ·exact h
    (try((repeat(revert hN;revert N;apply Pn.out));refine wk (tw @b0 (tw @b1 (tw @b6 (tw @b7 (tw @b8 @hw))))) ?_;(repeat(refine Pn.mk ?_;intro N hN))))
    refine⟨_,?_,k+1,iT,l,p,rfl,by omega,by omega,sd (tw @b8 @hw),sd @b6,sd @b7,wP,kQ,hl,.inr ⟨by omega,fun z h1 h2 S' h3 h4=>?_,uY.2⟩⟩
    ·omega
    ·by_cases ve:z=k
     ·subst ve;have:=hf.bound h3 h4;omega
     ·exact uY.1 z h1 (by omega) S' h3 h4
 ·have jy:k=cnt:=by omega
  (try((repeat(revert hN;revert N;apply Pn.out));refine wk (tw @b0 (tw @b1 (tw @b6 (tw @b7 (tw @b8 @hk))))) ?_;(repeat(refine Pn.mk ?_;intro N hN))))
  exact⟨[.int .i64 iT,p],sd @Nat.zero_add,.im [.int .i64 iT,.sl (l.map eN)],by simp only[eH,bI,aj,ar,kQ,aK,Option.map_some],iT,_,rfl,td.done h2 (jy▸hB)⟩
end Go.Proofs.YtgoljkjaameagaaGreat.V

namespace Go.Proofs.YtgoljkjaameagaaGreat.V
open Go.RowKit
inductive qR:List AV->List AV->Prop
 |nil:qR [] []
 |same (a) {l l'}:qR l l'->qR (a::l) (a::l')
 |ptr (cs rest) {l l'}:qR l l'->qR (.dd (cs++rest)::l) (.dd cs::l')
 |cq {l l'}:qR l l'->qR (.cq::l) (.sl []::l')
theorem Kv {P:Program} {w:World} {D:Nat->Prop} {ι:Names} {cs rest:List AV} {v:Value} (h:da P w D ι (.dd (cs++rest)) v):da P w D ι (.dd cs) v:=by
 obtain⟨b,o,vs,rfl,h1,h2,h3,h4⟩:=kA h
 exact .eO _ _ (.dd cs b o vs h1 (fun a ha=>h2 a (List.mem_append_left _ ha)) (fun j hj=>h3 j (by rw[List.length_append];omega)) fun j a ha=>h4 j a (by
  have:=(List.getElem?_eq_some_iff.1 ha).1
  rw[List.getElem?_append_left this];exact ha))
theorem Kx {P:Program} {w:World} {D:Nat->Prop} {ι:Names} {v:Value} (h:da P w D ι .cq v):da P w D ι (.sl []) v:=by
 cases h with
 |eO _ _ h=>
  cases h with
  |cq=>exact .eO _ _ (.FP none 0 (Nat.zero_le _))
theorem qR.len {l l':List AV} (h:qR l l'):l'.length=l.length:=by induction h<;>simp_all
theorem qR.get {P:Program} {w:World} {D:Nat->Prop} {ι:Names} {l l':List AV} (h:qR l l'):∀{j:Nat} {a':AV},l'[j]? =some a'->∃a,l[j]? =some a/\∀v,da P w D ι a v->da P w D ι a' v:=by
 induction h with
 |nil=>intro j a' hj;simp at hj
 |same a _ ih=>
  intro j a' hj
  cases j with
  |zero=>simp at hj;subst hj;exact⟨a,rfl,fun _ h=>h⟩
  |succ j=>exact ih (by simpa using hj)
 |ptr cs rest _ ih=>
  intro j a' hj
  cases j with
  |zero=>simp at hj;subst hj;exact⟨_,rfl,fun _ h=>Kv h⟩
  |succ j=>exact ih (by simpa using hj)
 |cq _ ih=>
  intro j a' hj
  cases j with
  |zero=>simp at hj;subst hj;exact⟨_,rfl,fun _ h=>Kx h⟩
  |succ j=>exact ih (by simpa using hj)
theorem Call.cut {P:Program} (hm:P.follows .mixedOrders=true) {f:Nat} {args gj:List AV} {σ:ax} {K:AV->ax->Prop} (hc:qR args gj) (h:Call P f gj σ K):Call P f args σ K:=
 fR fun hs D ι w vs S U A=>iA hm h hs D ι w vs S U ⟨by rw[A.1,hc.len],fun j a' hj=>by
  obtain⟨a,ha,hr⟩:=hc.get (P:=P) (w:=w) (D:=D) (ι:=ι) hj
  obtain⟨u,hu,hv⟩:=A.2 j a ha
  exact⟨u,hu,hr u hv⟩⟩
theorem aq.cut {P:Program} (hm:P.follows .mixedOrders=true) {f:Nat} {args gj:List AV} {r:AV} (hc:qR args gj) (h:aq P f gj r):aq P f args r:=fun n=>(h n).cut hm hc
end Go.Proofs.YtgoljkjaameagaaGreat.V

namespace Go.Proofs.YtgoljkjaameagaaGreat.V
open Go.RowKit
attribute [local irreducible] ej wpOps fQ Call
attribute [local go_sem] aH fq eD fH fG cV upd bZ K.av cC AV.cells AV.cell rowOf rowsOf part ld rowAt bK bR du dQ gE bB cR eb fF eL dh dV cP cN dD dE bF aT cG bE cI cH dS dW dU cF bJ cQ dR bD aJ cK cm gD bd cz bG aP dn aX dv AV.undef bj bx dG dO dz dF cu ea ei ck dY dX cJ cL List.getD_cons_zero List.getD_cons_succ List.getD_nil List.all_cons List.all_nil Bool.and_true Bool.true_and Bool.and_self Bool.not_true Bool.not_false Option.map_some Option.map_none Option.bind_some Option.bind_none List.length_cons List.length_nil List.take_succ_cons List.take_zero List.take_nil List.drop_succ_cons List.drop_zero List.drop_nil List.head?_cons List.map_cons List.map_nil List.getElem?_cons_zero List.getElem?_cons_succ List.cons_append List.nil_append List.append_nil List.length_map List.set_cons_zero List.set_cons_succ Nat.reduceMul eq_self Int.toNat_natCast Int.natCast_nonneg and_self true_and and_true decide_true decide_false Bool.false_eq_true Nat.zero_add Nat.add_zero List.contains_cons List.contains_nil Bool.or_false Bool.false_or beq_self_eq_true Nat.reduceBEq ne_eq not_true_eq_false not_false_eq_true Id.mk.injEq false_and and_false Nat.reduceLT Int.reduceLE Int.reduceLT Int.reduceToNat Int.reduceNeg Int.reduceAdd Nat.le_refl List.length_append beq_true beq_false Bool.not_eq_eq_eq_not or_false false_or eo aj ar aK aV bp bW aQ aZ aN aU cD bI
theorem KE {s:au} (hS:gJ s) (a d:Int):oG s (cY (cZ s a) d)<=4:=by
 have hF:=hS.form
 have e9:cY (cZ s a) d=0∨(0<=cY (cZ s a) d/\cY (cZ s a) d<=s.aC.length):=by
  unfold cY cZ
  rw[List.getD_eq_getElem?_getD,List.getD_eq_getElem?_getD]
  rcases ht:s.ae[a.toNat]? with _|t
  ·exact .inl (by simp[yk])
  ·have S4:=List.mem_of_getElem? ht
   simp only[Option.getD_some]
   rcases hg:t.bY[d.toNat]? with _|g
   ·exact .inl rfl
   ·exact .inr (hF.r7 t S4 g (List.mem_of_getElem? hg))
 unfold oG
 by_cases h0:cY (cZ s a) d=0
 ·rw[if_pos h0];omega
 ·rw[if_neg h0]
  have hk:(cY (cZ s a) d-1).toNat<s.aC.length:=by omega
  have:=dM (hS.Qv _ hk).2.1
  unfold oz at this
  unfold pd
  omega
theorem zl {s:au} (hS:gJ s) (a d b:Int):gC s a d b<=4:=by
 unfold gC
 split
 ·exact KE hS a d
 ·omega
theorem EC {s:au} {l:List ad} (hS:gJ s) {i:Nat} (hi:i<l.length) {d:Int}:∀b∈lS s l i d,b.a<l.length/\b.b<l.length/\0<=b.s/\b.s<=4:=by
 intro b hb
 unfold lS at hb
 split at hb
 ·rename_i h
  simp only[List.mem_singleton]at hb
  subst hb
  exact⟨hi,(j4 h.1).1,by simp only;omega,zl hS ..⟩
 ·cases hb
theorem we {s:au} {l:List ad} (hS:gJ s):∀b∈cU s l,b.a<l.length/\b.b<l.length/\0<=b.s/\b.s<=4:=by
 intro b hb
 simp only[cU,gp,fK,List.mem_flatMap,List.mem_range]at hb
 obtain⟨i,hi,j,_,hb⟩:=hb
 exact EC hS hi b hb
theorem oY {s:au} {l:List ad} (hF:jU l):(cU s l).length<=1000:=by
 have:=rU s l l.length
 have:=hF.A6
 rw[cU];omega
theorem GK {bs:List PB} {e:Nat} (h:e<bs.length):cj bs e∈bs:=by
 rw[cj,List.getD_eq_getElem?_getD,List.getElem?_eq_getElem h];exact List.getElem_mem h
theorem Fa {n:Nat} {bs:List PB} {t:Int} (h:n<2):kb n bs t:=fun S h0 ⟨y,hy,hf⟩=>by
 have:y=0:=by omega
 subst this;rw[h0]at hf;cases hf
def gU (s:au) (l:List ad) (t:Int):Nat:=(leads l.length (er (aI t (cU s l)))).length
noncomputable def mD (s:au) (l:List ad) (t:Int):Bool:=@decide (nR l.length (cU s l) t) (Classical.propDecidable _)
def qZ (s:au) (l:List ad) (t:Int):Int:=if 64<gU s l t then 4 else 0
theorem lG {s:au} {l:List ad} {t:Int} {p:Prop} [Decidable p] (h:p↔nR l.length (cU s l) t):decide p=mD s l t:=by
 letI:=Classical.propDecidable (nR l.length (cU s l) t)
 unfold mD
 by_cases hp:p
 ·rw[decide_eq_true hp];exact(decide_eq_true (h.1 hp)).symm
 ·rw[decide_eq_false hp];exact(decide_eq_false fun k=>hp (h.2 k)).symm
theorem Ap (s:au) (l:List ad) (t:Int) (hS:gJ s) (hA:jM s l):aq Tryz.prog 168 [.dd (aa s),.dd [.sl (l.map ai)],.int .i64 t] (.im [.bool (mD s l t),.int .i64 (qZ s l t)]):=by
 refine aq.body eE rfl fun hl n0=>?_
 clear hl
 have hb:=we (l:=l) hS
 have mM:=oY (s:=s) hA.1
 have E6:=hA.1.A6
 have wE:=Cx s l hS.form hA
 have I7:=Ao l.length (by omega) (cU s l) (fun b h=>⟨(hb b h).1,(hb b h).2.1⟩) (by omega) t
 have hL:=sf (aI t (cU s l))
 have e9:=CX hL (fun b h=>⟨(hb b h).1,(hb b h).2.1⟩)
 have hlen:=(ma (er (aI t (cU s l))) (cU s l)).2
 have oB:=jq l.length (er (aI t (cU s l)))
 have eX:(l.map ai).length=l.length:=by simp
 by_cases sF:(64:Int)<(gU s l t:Int)
 ·have sG:64<gU s l t:=by omega
  have hd:mD s l t=false:=(lG (p:=False) ⟨False.elim,fun h=>by have:=h.1;unfold gU at sG;omega⟩).symm.trans (by simp)
  rw[gU]at sF
  (repeat(first|((repeat(revert hN;revert N;apply Pn.out));refine wk (tw @aa.eq_1 (tw @sF @eX)) ?_;(repeat(refine Pn.mk ?_;intro N hN)))|((try apply Or.inl);refine⟨_,aq.x (wE) (sd (tw @aa.eq_1 (tw @sF @eX))),?_⟩;refine hN _ _ ?_;clear hN N)|((try apply Or.inl);refine⟨_,aq.x (I7) (sd (tw @aa.eq_1 (tw @sF @eX))),?_⟩;refine hN _ _ ?_;clear hN N)))
  exact jc (.inl rfl) (r1:=.bool false) (r2:=.int .i64 4) (sd @Nat.zero_add) (sd @Nat.zero_add) (by rw[hd,qZ,if_pos sG];simp only[dZ,aS,bm,fB,dr,Option.map_some])
 have sG:¬64<gU s l t:=by omega
 have hf:qZ s l t=0:=by rw[qZ,if_neg sG]
 by_cases h2:(gU s l t:Int)<2
 ·have hd:mD s l t=true:=(lG (p:=True) ⟨fun _=>⟨by unfold gU at sG;omega,Fa (by unfold gU at h2;omega)⟩,fun _=>trivial⟩).symm.trans (by simp)
  rw[gU]at sF h2
  (repeat(first|((repeat(revert hN;revert N;apply Pn.out));refine wk (tw @aa.eq_1 (tw @sF (tw @h2 @eX))) ?_;(repeat(refine Pn.mk ?_;intro N hN)))|((try apply Or.inl);refine⟨_,aq.x (wE) (sd (tw @aa.eq_1 (tw @sF (tw @h2 @eX)))),?_⟩;refine hN _ _ ?_;clear hN N)|((try apply Or.inl);refine⟨_,aq.x (I7) (sd (tw @aa.eq_1 (tw @sF (tw @h2 @eX)))),?_⟩;refine hN _ _ ?_;clear hN N)))
  exact jc (.inl rfl) (r1:=.bool true) (r2:=.int .i64 0) (sd @Nat.zero_add) (sd @Nat.zero_add) (by rw[hd,hf];simp only[dZ,aS,bm,fB,dr,Option.map_some])
 have MR:=xY (gU s l t) (by omega) (by unfold gU;omega) (eS (er (aI t (cU s l))) (cU s l)) (fun e he=>by have:=e9 _ (GK he);exact⟨this.1,this.2.1,this.2.2.1⟩) (by omega) (fun e he=>by
  obtain⟨_,_,_,c,hc,dp⟩:=e9 _ (GK he)
  rw[dp];have:=hb c hc;omega)
 rw[gU]at sF h2 MR
 (repeat(first|((repeat(revert hN;revert N;apply Pn.out));refine wk (tw @aa.eq_1 (tw @sF (tw @h2 @eX))) ?_;(repeat(refine Pn.mk ?_;intro N hN)))|((try apply Or.inl);refine⟨_,aq.x (wE) (sd (tw @aa.eq_1 (tw @sF (tw @h2 @eX)))),?_⟩;refine hN _ _ ?_;clear hN N)|((try apply Or.inl);refine⟨_,aq.x (I7) (sd (tw @aa.eq_1 (tw @sF (tw @h2 @eX)))),?_⟩;refine hN _ _ ?_;clear hN N)))
 refine .inr (bL _ _ _ _ _ (fun r σ1 hq=>?_) (MR.x mixed))
 obtain⟨⟨iT,p,rfl,O1⟩,rfl⟩:=hq
 refine hN _ _ ?_
 clear hN N
 (try((repeat(revert hN;revert N;apply Pn.out));refine wk @Nat.zero_add ?_;(repeat(refine Pn.mk ?_;intro N hN))))
 exact jc (.inl rfl) (r1:=.bool (decide (t<=iT))) (r2:=.int .i64 0) (sd @Nat.zero_add) (sd @Nat.zero_add) (by
  rw[hf,lG (s:=s) (l:=l) (t:=t) (p:=t<=iT) ((O1 t).trans (Ck.trans ⟨fun h=>⟨by unfold gU at sG;omega,h⟩,fun h=>h.2⟩))]
  simp only[dZ,aS,bm,fB,dr,Option.map_some])
theorem rE (t:Int):aq Tryz.prog 123 [.int .i64 t] (.bool (gn t 1 16)):=by
 refine aq.body eE rfl fun hl n0=>?_
 clear hl
 have h:=iY t 1 16
 (repeat(first|((repeat(revert hN;revert N;apply Pn.out));refine wk @Nat.zero_add ?_;(repeat(refine Pn.mk ?_;intro N hN)))|((try apply Or.inl);refine⟨_,aq.x (h) (sd @Nat.zero_add),?_⟩;refine hN _ _ ?_;clear hN N)))
 exact aL (b:=gn t 1 16) (.inl rfl) (sd @Nat.zero_add) rfl
structure Br (s:aG):Prop where
 set:gJ s.az
 Ky:jM s.az s.cr.ae
 some:1<=s.cr.ae.length
 IE:gn s.aw 1 16=true
 holds:nR s.cr.ae.length (cU s.az s.cr.ae) s.aw
noncomputable def j8 (s:aG):Bool:=@decide (Br s) (Classical.propDecidable _)
theorem qD {s:aG}:j8 s=true↔Br s:=by simp[j8]
theorem jA {s:aG} (h:¬Br s):false=j8 s:=by simp[j8,h]
theorem AM {s:aG} (h:Br s):true=j8 s:=by simp[j8,h]
theorem oe {s:au} {l:List ad} {t:Int}:mD s l t=true↔nR l.length (cU s l) t:=by simp[mD]
theorem J9 (s:aG) (hn:fe s.az) (hg:s.az.aC.length<=1048576) (ht:s.az.ae.length<=1048576):aq Tryz.prog 94 [.dd (aD s)] (.bool (j8 s)):=by
 refine aq.body eE rfl fun hl n0=>?_
 clear hl
 have h1:=(DZ s.az hn hg ht).cut mixed (.ptr _ [.sl (s.cr.ae.map ai),.int .i64 s.aw] .nil)
 by_cases hS:gJ s.az
 ·rw[kD.2 hS]at h1
  have h2:=(D4 s.az s.cr.ae).cut mixed (.ptr _ [.sl (s.cr.ae.map ai),.int .i64 s.aw] (.ptr _ [.int .i64 s.aw] .nil))
  by_cases hA:jM s.az s.cr.ae
  ·rw[kd.2 hA]at h2
   by_cases h0:(s.cr.ae.length:Int)=0
   ·have hd:decide ((s.cr.ae.length:Int)=0)=true:=decide_eq_true h0
    have kN:false=j8 s:=jA fun h=>by have:=h.some;omega
    generalize eX:(s.cr.ae.map ai).length=len at *
    (repeat(first|((repeat(revert hN;revert N;apply Pn.out));refine wk (tw @aD.eq_1 (tw @aa.eq_1 @hd)) ?_;(repeat(refine Pn.mk ?_;intro N hN)))|((try apply Or.inl);refine⟨_,aq.x (h1) (sd (tw @aD.eq_1 (tw @aa.eq_1 @hd))),?_⟩;refine hN _ _ ?_;clear hN N)|((try apply Or.inl);refine⟨_,aq.x (h2) (sd (tw @aD.eq_1 (tw @aa.eq_1 @hd))),?_⟩;refine hN _ _ ?_;clear hN N)))
    exact aL (b:=false) (.inl rfl) (sd @Nat.zero_add) kN
   ·have hd:decide ((s.cr.ae.length:Int)=0)=false:=decide_eq_false h0
    have h3:=rE s.aw
    cases hT:gn s.aw 1 16
    ·rw[hT]at h3
     (repeat(first|((repeat(revert hN;revert N;apply Pn.out));refine wk (tw @aD.eq_1 (tw @aa.eq_1 @hd)) ?_;(repeat(refine Pn.mk ?_;intro N hN)))|((try apply Or.inl);refine⟨_,aq.x (h1) (sd (tw @aD.eq_1 (tw @aa.eq_1 @hd))),?_⟩;refine hN _ _ ?_;clear hN N)|((try apply Or.inl);refine⟨_,aq.x (h2) (sd (tw @aD.eq_1 (tw @aa.eq_1 @hd))),?_⟩;refine hN _ _ ?_;clear hN N)|((try apply Or.inl);refine⟨_,aq.x (h3) (sd (tw @aD.eq_1 (tw @aa.eq_1 @hd))),?_⟩;refine hN _ _ ?_;clear hN N)))
     exact aL (b:=false) (.inl rfl) (sd @Nat.zero_add) (jA fun h=>by have:=h.IE;rw[hT]at this;cases this)
    ·rw[hT]at h3
     have h4:=(Ap s.az s.cr.ae s.aw hS hA).cut mixed (.ptr _ [.sl (s.cr.ae.map ai),.int .i64 s.aw] (.ptr _ [.int .i64 s.aw] (.same _ .nil)))
     cases hB:mD s.az s.cr.ae s.aw
     ·rw[hB]at h4
      (repeat(first|((repeat(revert hN;revert N;apply Pn.out));refine wk (tw @aD.eq_1 (tw @aa.eq_1 @hd)) ?_;(repeat(refine Pn.mk ?_;intro N hN)))|((try apply Or.inl);refine⟨_,aq.x (h1) (sd (tw @aD.eq_1 (tw @aa.eq_1 @hd))),?_⟩;refine hN _ _ ?_;clear hN N)|((try apply Or.inl);refine⟨_,aq.x (h2) (sd (tw @aD.eq_1 (tw @aa.eq_1 @hd))),?_⟩;refine hN _ _ ?_;clear hN N)|((try apply Or.inl);refine⟨_,aq.x (h3) (sd (tw @aD.eq_1 (tw @aa.eq_1 @hd))),?_⟩;refine hN _ _ ?_;clear hN N)|((try apply Or.inl);refine⟨_,aq.x (h4) (sd (tw @aD.eq_1 (tw @aa.eq_1 @hd))),?_⟩;refine hN _ _ ?_;clear hN N)))
      exact aL (b:=false) (.inl rfl) (sd @Nat.zero_add) (jA fun h=>by have:=oe.2 h.holds;rw[hB]at this;cases this)
     ·have hP:=oe.1 hB
      have hf:qZ s.az s.cr.ae s.aw=0:=by
       have:=hP.1
       rw[qZ,if_neg (by unfold gU;omega)]
      rw[hB,hf]at h4
      (repeat(first|((repeat(revert hN;revert N;apply Pn.out));refine wk (tw @aD.eq_1 (tw @aa.eq_1 @hd)) ?_;(repeat(refine Pn.mk ?_;intro N hN)))|((try apply Or.inl);refine⟨_,aq.x (h1) (sd (tw @aD.eq_1 (tw @aa.eq_1 @hd))),?_⟩;refine hN _ _ ?_;clear hN N)|((try apply Or.inl);refine⟨_,aq.x (h2) (sd (tw @aD.eq_1 (tw @aa.eq_1 @hd))),?_⟩;refine hN _ _ ?_;clear hN N)|((try apply Or.inl);refine⟨_,aq.x (h3) (sd (tw @aD.eq_1 (tw @aa.eq_1 @hd))),?_⟩;refine hN _ _ ?_;clear hN N)|((try apply Or.inl);refine⟨_,aq.x (h4) (sd (tw @aD.eq_1 (tw @aa.eq_1 @hd))),?_⟩;refine hN _ _ ?_;clear hN N)))
      exact aL (b:=true) (.inl rfl) (sd @Nat.zero_add) (AM ⟨hS,hA,by omega,hT,hP⟩)
  ·have hb:lQ s.az s.cr.ae=false:=Bool.eq_false_iff.2 fun h=>hA (kd.1 h)
   rw[hb]at h2
   (repeat(first|((repeat(revert hN;revert N;apply Pn.out));refine wk (tw @aD.eq_1 @aa.eq_1) ?_;(repeat(refine Pn.mk ?_;intro N hN)))|((try apply Or.inl);refine⟨_,aq.x (h1) (sd (tw @aD.eq_1 @aa.eq_1)),?_⟩;refine hN _ _ ?_;clear hN N)|((try apply Or.inl);refine⟨_,aq.x (h2) (sd (tw @aD.eq_1 @aa.eq_1)),?_⟩;refine hN _ _ ?_;clear hN N)))
   exact aL (b:=false) (.inl rfl) (sd @Nat.zero_add) (jA fun h=>hA h.Ky)
 ·have hb:mT s.az=false:=Bool.eq_false_iff.2 fun h=>hS (kD.1 h)
  rw[hb]at h1
  (repeat(first|((repeat(revert hN;revert N;apply Pn.out));refine wk (tw @aD.eq_1 @aa.eq_1) ?_;(repeat(refine Pn.mk ?_;intro N hN)))|((try apply Or.inl);refine⟨_,aq.x (h1) (sd (tw @aD.eq_1 @aa.eq_1)),?_⟩;refine hN _ _ ?_;clear hN N)))
  exact aL (b:=false) (.inl rfl) (sd @Nat.zero_add) (jA fun h=>hS h.set)
theorem KD {s:au} (hS:gJ s) (a d:Int):0<=oG s (cY (cZ s a) d):=by
 have hF:=hS.form
 have e9:cY (cZ s a) d=0∨(0<=cY (cZ s a) d/\cY (cZ s a) d<=s.aC.length):=by
  unfold cY cZ
  rw[List.getD_eq_getElem?_getD,List.getD_eq_getElem?_getD]
  rcases ht:s.ae[a.toNat]? with _|t
  ·exact .inl (by simp[yk])
  ·have S4:=List.mem_of_getElem? ht
   simp only[Option.getD_some]
   rcases hg:t.bY[d.toNat]? with _|g
   ·exact .inl rfl
   ·exact .inr (hF.r7 t S4 g (List.mem_of_getElem? hg))
 unfold oG
 by_cases h0:cY (cZ s a) d=0
 ·rw[if_pos h0];omega
 ·rw[if_neg h0]
  have hk:(cY (cZ s a) d-1).toNat<s.aC.length:=by omega
  have:=dM (hS.Qv _ hk).2.1
  unfold oz at this
  unfold pd
  omega
theorem zk {s:au} (hS:gJ s) (a d b:Int):0<=gC s a d b/\gC s a d b<=4:=by
 refine⟨?_,zl hS a d b⟩
 unfold gC
 split
 ·exact KD hS a d
 ·omega
def di (s:au) (f:ah->Int) (p:ah) (t:Int):Nat->Int
 |0=>0
 |d+1=>di s f p t d+if 0<=f (aW p d)then gC s t d (f (aW p d))else 0
def oJ (s:au) (f:ah->Int) (p:ah) (t:Int):Int:=di s f p t 4
theorem jD {s:au} (hS:gJ s) (f:ah->Int) (p:ah) (t:Int):∀d,0<=di s f p t d/\di s f p t d<=4*(d:Int)
 |0=>⟨Int.le_refl _,Int.le_refl _⟩
 |d+1=>by
  have:=jD hS f p t d
  have hb:=zk hS t d (f (aW p d))
  simp only[di]
  split<;>omega
theorem GJ {s:au} {l:List ad} (hA:jM s l) {p:ah} (h:0<=gz l p):eK s (gz l p)=true:=by
 unfold gz at h ⊢
 split at h
 ·rename_i h0
  rw[if_pos h0]
  exact hA.2 _ (gP (j4 h0).1)
 ·omega
noncomputable def xq (s:aG) (l:List ad):Bool:=j8 s&&lQ s.az l
theorem GH {s:aG} {l:List ad}:xq s l=true↔Br s/\jM s.az l:=by simp[xq,qD,kd]
theorem AP {s:au} {k:Nat} (h:k<s.ae.length):eK s k=true:=by
 unfold eK;exact gr (by omega)
theorem GI {s:au} {l:List ad} (hA:jM s l) (p:ah):gz l p<0↔eC l p<0:=by
 constructor
 ·intro h
  rcases Int.lt_or_le (eC l p) 0 with h0|h0
  ·exact h0
  ·exfalso
   obtain⟨h1,_⟩:=j4 h0
   have h2:=(dM (hA.2 _ (gP h1))).1
   rw[gz,if_pos h0]at h
   omega
 ·intro h
  rw[gz,if_neg (by omega)];omega
abbrev mP:MK:=⟨true,[.tI,.tI]⟩
theorem Aw (p:ah):∀(ts:List ad) (i:Nat),fI mP (ab p) (ts.map ai) i=some (if pr ts p<ts.length then some (i+pr ts p)else none)
 |[],i=>by simp[fI,pr]
 |t::ts,i=>by
  have e:eL mP.ts (ab p) ((ai t).take mP.ks)=some (decide (p=t.bH)):=by
   have h:(p=t.bH)↔(p.eI=t.bH.eI/\p.eB=t.bH.eB):=⟨fun h=>by rw[h];exact⟨rfl,rfl⟩,fun h=>uv h.1 h.2⟩
   simp[MK.ks,ab,ai,eL,fF,h]
  have ih:=Aw p ts (i+1)
  rw[List.map_cons]
  unfold fI
  rw[e]
  by_cases h:p=t.bH
  ·rw[decide_eq_true h]
   have h0:pr (t::ts) p=0:=by simp[pr,List.findIdx_cons,h]
   simp[h0]
  ·rw[decide_eq_false h]
   have h0:pr (t::ts) p=pr ts p+1:=by
    simp[pr,List.findIdx_cons,Ne.symm h]
   simp only[ih,h0,List.length_cons,Nat.add_lt_add_iff_right]
   congr 1
   split<;>simp;omega
theorem w5 (ts:List ad) (p:ah):fC mP (.agg [.int .i64 p.eI,.int .i64 p.eB]) (ts.map ai)=some (if 0<=eC ts p then some (eC ts p).toNat else none):=by
 have h:=Aw p ts 0
 unfold fC
 rw[if_pos ⟨rfl,rfl,rfl⟩]
 show fI mP (ab p) _ 0= _
 rw[h]
 unfold eC
 split<;>simp
theorem Fz {ts:List ad} {p:ah} (h:0<=eC ts p):fC mP (.agg [.int .i64 p.eI,.int .i64 p.eB]) (ts.map ai)=some (some (eC ts p).toNat):=by rw[w5,if_pos h]
theorem um {ts:List ad} {p:ah} (h:eC ts p<0):fC mP (.agg [.int .i64 p.eI,.int .i64 p.eB]) (ts.map ai)=some none:=by rw[w5,if_neg (by omega)]
structure y6 (g:Rows) (n:Nat) (c T O:Id) (s:aG) (ts:List ad):Prop where
 row:∃b,g c=some ⟨b,6,[[.sl (s.az.aC.map cw),.sl (s.az.ae.map bh),.sl (s.cr.ae.map ai),.int .i64 s.aw,.map T mP,.map O mP]]⟩
 tl:∃b,g T=some ⟨b,mP.lp,ts.map ai⟩
 cv:c.bt<n
 tv:T.bt<n
 ov:O.bt<n
theorem y6.ro {g:Rows} {n:Nat} {c T O:Id} {s:aG} {ts:List ad} (h:y6 g n c T O s ts):y6 (V.ro g) n c T O s ts:=by
 obtain⟨b,h1⟩:=h.row
 obtain⟨b2,h2⟩:=h.tl
 exact⟨⟨false,by simp[V.ro,h1]⟩,⟨false,by simp[V.ro,h2]⟩,h.cv,h.tv,h.ov⟩
theorem y6.frame {g g':Rows} {n n':Nat} {c T O:Id} {s:aG} {ts:List ad} (h:y6 g n c T O s ts) (hn:n<=n') (hc:g' c=g c) (hT:g' T=g T):y6 g' n' c T O s ts:=
 ⟨by rw[hc];exact h.row,by rw[hT];exact h.tl,Nat.lt_of_lt_of_le h.cv hn,Nat.lt_of_lt_of_le h.tv hn,Nat.lt_of_lt_of_le h.ov hn⟩
theorem Ry {σ:ax} {c T O:Id} {s:aG} {ts:List ad} (h:y6 σ.get σ.next c T O s ts) (p:ah):Call Tryz.prog 281 [.ptr c 0 0,.agg (ab p)] σ (fun r _=>r=.int .i64 (gz ts p)):=by
 refine iq eE rfl fun kM=>?_
 clear kM
 obtain⟨b,h1⟩:=h.row
 obtain⟨b2,h2⟩:=h.tl
 have v1:=ef h.cv
 have v2:=ef h.tv
 by_cases h0:0<=eC ts p
 ·have hm:=Fz h0
  have hg:=fj (j4 h0).1
  have ho:(some (eC ts p).toNat).isSome=true:=rfl
  (try((repeat(revert hN;revert N;apply Pn.out));refine wk (tw @h1 (tw @h2 (tw @v1 (tw @v2 (tw @hm (tw @hg (tw @ho (tw @ab.eq_1 @ai.eq_1)))))))) ?_;(repeat(refine Pn.mk ?_;intro N hN))))
  exact gQ (.inl rfl) (vs:=[.int .i64 (aO ts (eC ts p).toNat).bq]) (sd @Nat.zero_add) (by rw[gz,if_pos h0];rfl)
 ·have hm:=um (ts:=ts) (p:=p) (by omega)
  have ho:(none:Option Nat).isSome=false:=rfl
  (try((repeat(revert hN;revert N;apply Pn.out));refine wk (tw @h1 (tw @h2 (tw @v1 (tw @v2 (tw @hm (tw @ho @ab.eq_1)))))) ?_;(repeat(refine Pn.mk ?_;intro N hN))))
  exact gQ (.inl rfl) (vs:=[.int .i64 (-1)]) (sd @Nat.zero_add) (by rw[gz,if_neg h0];rfl)
theorem LL {σ:ax} {c T O:Id} {s:aG} {ts:List ad} (h:y6 σ.get σ.next c T O s ts) (p:ah):fQ (Call Tryz.prog) 281 [.ptr c 0 0,.agg (ab p)] σ (fun r=>r=.int .i64 (gz ts p)):=by
 unfold fQ PC
 exact Or.inl (bL _ _ _ _ _ (fun r σ' hr=>⟨_,by rw[hr];exact aK _ _ _ _,rfl⟩) (Ry (σ:=⟨V.ro σ.get,σ.next⟩) h.ro p))
theorem EA {σ:ax} (s:au) (hS:gJ s) (F:ah->Int) (hF:∀q,0<=F q->eK s (F q)=true) (p:ah) (hx:iB p.eI) (hy:iB p.eB) (t:Int) (ht:eK s t=true) (f:Nat) (first:List AV)
  (yW:∀σ':ax,σ.next<=σ'.next->(∀x:Id,x.bt<σ.next->σ'.get x=σ.get x)->∀q,fQ (Call Tryz.prog) f (first++[.agg (ab q)]) σ' (fun r=>r=.int .i64 (F q))):
  Call Tryz.prog 249 [.agg (aa s),.agg (ab p),.int .i64 t,.ui f first] σ (fun r _=>r=.int .i64 (oJ s F p t)):=by
 refine iq eE rfl fun kM=>?_
 clear kM
 (try((repeat(revert hN;revert N;apply Pn.out));refine wk (tw @ab.eq_1 @aa.eq_1) ?_;(repeat(refine Pn.mk ?_;intro N hN))))
 refine aM (fun n env st=>∃k:Nat,n=(4)-k/\k<=(4)/\env 12=.int .i64 (k:Int)/\env 9=.int .i64 (di s F p t k)/\st.get ⟨249000000,σ.next⟩=some ⟨true,2,[aa s]⟩/\st.get ⟨249000001,σ.next⟩=some ⟨true,2,[ab p]⟩/\(σ.next<st.next/\∀x:Id,x.bt<σ.next->st.get x=σ.get x)) (4) ⟨0,by omega,by omega,sl (tw @ab.eq_1 @aa.eq_1),sl (tw @ab.eq_1 @aa.eq_1),sl (tw @ab.eq_1 @aa.eq_1),sl (tw @ab.eq_1 @aa.eq_1),⟨by(try dsimp only);omega,fun x hx=>by
  have:=ef hx
  simp only[go_sem, ↓reduceIte,Nat.reduceEqDiff,Nat.reduceAdd,Nat.reduceSub,Nat.reduceLeDiff,reduceCtorEq,this]⟩⟩ ?_
 rintro n_a env_a st_a ⟨k,rfl,ale,a12,a9,ag0,ag1,mE⟩ dq
 have a2:=dq 2 (by kernel_rfl);have a3:=dq 3 (by kernel_rfl);have a4:=dq 4 (by kernel_rfl);have a5:=dq 5 (by kernel_rfl)
 simp only[go_sem, ↓reduceIte,Nat.reduceEqDiff,Nat.reduceAdd,Nat.reduceSub,Nat.reduceLeDiff,reduceCtorEq,ab,aa]at a2 a3 a4 a5
 clear dq
 obtain⟨an,dq⟩:=mE
 by_cases hk:(k:Int)<4
 ·have cE:∀{e:Env} {gg:Rows} {nx:Nat},(e 12=.int .i64 (IntKind.i64.wrap ((k:Int)+1)))->(e 9=.int .i64 (di s F p t (k+1)))->(gg ⟨249000000,σ.next⟩=some ⟨true,2,[aa s]⟩)->(gg ⟨249000001,σ.next⟩=some ⟨true,2,[ab p]⟩)->(σ.next<nx/\∀x:Id,x.bt<σ.next->gg x=σ.get x)->∃m0,m0<(4)-k/\∃k:Nat,m0=(4)-k/\k<=(4)/\e 12=.int .i64 (k:Int)/\e 9=.int .i64 (di s F p t k)/\gg ⟨249000000,σ.next⟩=some ⟨true,2,[aa s]⟩/\gg ⟨249000001,σ.next⟩=some ⟨true,2,[ab p]⟩/\(σ.next<nx/\∀x:Id,x.bt<σ.next->gg x=σ.get x):=fun x1 x2 x3 x4 x5=>⟨_,by omega,k+1,rfl,by omega,(by rw[x1,aB (by omega)]),x2,x3,x4,x5⟩
  have dL:=C1 p k (gr (by omega)) hx hy
  have e9:=jD hS F p t k
  (repeat(first|((repeat(revert hN;revert N;apply Pn.out));refine wk (tw @a12 (tw @a9 (tw @ag0 (tw @ag1 (tw @a2 (tw @a3 (tw @a4 (tw @a5 (tw @hk @ab.eq_1))))))))) ?_;(repeat(refine Pn.mk ?_;intro N hN)))|((try apply Or.inl);refine⟨_,aq.x (dL) (sd (tw @a12 (tw @a9 (tw @ag0 (tw @ag1 (tw @a2 (tw @a3 (tw @a4 (tw @a5 (tw @hk @ab.eq_1)))))))))),?_⟩;refine hN _ _ ?_;clear hN N)))
  refine .inl ⟨_,yW _ (by(try dsimp only);omega) (fun x hx=>sd (dq x hx)) (aW p k),?_⟩
  refine hN _ _ ?_
  clear hN N
  by_cases h0:0<=F (aW p k)
  ·have wE:=GR s hS.form t k (F (aW p k)) ht (hF _ h0) (gr (by omega))
   have fa:=zk hS t k (F (aW p k))
   have hw:IntKind.i64.wrap (di s F p t k+gC s t k (F (aW p k)))=di s F p t (k+1):=by
    rw[bz (by omega),di,if_pos h0]
   rw[aa]at wE
   (repeat(first|((repeat(revert hN;revert N;apply Pn.out));refine wk (tw @a12 (tw @a9 (tw @ag0 (tw @ag1 (tw @a2 (tw @a3 (tw @a4 (tw @a5 (tw @h0 @aa.eq_1))))))))) ?_;(repeat(refine Pn.mk ?_;intro N hN)))|((try apply Or.inl);refine⟨_,aq.x (wE) (sd (tw @a12 (tw @a9 (tw @ag0 (tw @ag1 (tw @a2 (tw @a3 (tw @a4 (tw @a5 (tw @h0 @aa.eq_1)))))))))),?_⟩;refine hN _ _ ?_;clear hN N)))
   refine cE ?_ ?_ ?_ ?_ (⟨by(try dsimp only);omega,fun x hx=>by
    have h1:=dq x hx
    simp only[go_sem, ↓reduceIte,Nat.reduceEqDiff,Nat.reduceAdd,Nat.reduceSub,Nat.reduceLeDiff,reduceCtorEq,h1]⟩)
   all_goals simp only[go_sem, ↓reduceIte,Nat.reduceEqDiff,Nat.reduceAdd,Nat.reduceSub,Nat.reduceLeDiff,reduceCtorEq,a12,a9,ag0,ag1,a2,a3,a4,a5,hw,ab,aa]
  ·have hw:di s F p t (k+1)=di s F p t k:=by rw[di,if_neg h0,Int.add_zero]
   (try((repeat(revert hN;revert N;apply Pn.out));refine wk (tw @a12 (tw @a9 (tw @ag0 (tw @ag1 (tw @a2 (tw @a3 (tw @a4 (tw @a5 @h0)))))))) ?_;(repeat(refine Pn.mk ?_;intro N hN))))
   refine cE ?_ ?_ ?_ ?_ (⟨by(try dsimp only);omega,fun x hx=>by
    have h1:=dq x hx
    simp only[go_sem, ↓reduceIte,Nat.reduceEqDiff,Nat.reduceAdd,Nat.reduceSub,Nat.reduceLeDiff,reduceCtorEq,h1]⟩)
   all_goals simp only[go_sem, ↓reduceIte,Nat.reduceEqDiff,Nat.reduceAdd,Nat.reduceSub,Nat.reduceLeDiff,reduceCtorEq,a12,a9,ag0,ag1,a2,a3,a4,a5,hw,ab,aa]
 ·(try((repeat(revert hN;revert N;apply Pn.out));refine wk (tw @a12 (tw @a9 (tw @ag0 (tw @ag1 (tw @a2 (tw @a3 (tw @a4 (tw @a5 @hk)))))))) ?_;(repeat(refine Pn.mk ?_;intro N hN))))
  exact gQ (.inl rfl) (vs:=[.int .i64 (di s F p t k)]) (sd (tw @a12 (tw @a9 (tw @ag0 (tw @ag1 (tw @a2 (tw @a3 (tw @a4 @a5)))))))) (by rw[show k=4 by omega];rfl)
noncomputable def eu (s:aG) (ts:List ad) (p:ah) (t:Int):Bool:=yp p&&decide (gz ts p<0)&&decide (s.aw<=oJ s.az (gz ts) p t)
theorem EB {σ:ax} {c T O:Id} {s:aG} {ts:List ad} (h:y6 σ.get σ.next c T O s ts) (hS:gJ s.az) (hF:∀q,0<=gz ts q->eK s.az (gz ts q)=true) (p:ah) (hx:iB p.eI) (hy:iB p.eB) (t:Int) (ht:eK s.az t=true):
  fQ (Call Tryz.prog) 249 [.agg (aa s.az),.agg (ab p),.int .i64 t,.ui 281 [.ptr c 0 0]] σ (fun r=>r=.int .i64 (oJ s.az (gz ts) p t)):=by
 unfold fQ PC
 exact Or.inl (bL _ _ _ _ _ (fun r σ' hr=>⟨_,by rw[hr];exact aK _ _ _ _,rfl⟩) (EA (σ:=⟨V.ro σ.get,σ.next⟩) s.az hS (gz ts) hF p hx hy t ht _ _
  (fun σ' hn hk q=>LL (h.ro.frame hn (hk _ h.cv) (hk _ h.tv)) q)))
theorem L2 {σ:ax} {c T O:Id} {s:aG} {ts:List ad} (h:y6 σ.get σ.next c T O s ts) (hS:gJ s.az) (hF:∀q,0<=gz ts q->eK s.az (gz ts q)=true) (p:ah) (t:Int) (ht:eK s.az t=true):
  Call Tryz.prog 229 [.ptr c 0 0,.agg (ab p),.int .i64 t] σ (fun r _=>r=.bool (eu s ts p t)):=by
 refine iq eE rfl fun kM=>?_
 clear kM
 obtain⟨b,h1⟩:=h.row
 have v1:=ef h.cv
 have hw:=pR p
 have v2:=ef h.tv
 by_cases h0:yp p=true
 ·rw[h0]at hw
  obtain⟨hx,hy⟩:=rH h0
  by_cases h2:gz ts p<0
  ·(repeat(first|((repeat(revert hN;revert N;apply Pn.out));refine wk (tw @h1 (tw @v1 (tw @h2 @ab.eq_1))) ?_;(repeat(refine Pn.mk ?_;intro N hN)))|((try apply Or.inl);refine⟨_,aq.x (hw) (sd (tw @h1 (tw @v1 (tw @h2 @ab.eq_1)))),?_⟩;refine hN _ _ ?_;clear hN N)))
   refine⟨_,LL (h.frame (by(try dsimp only);omega) (sd @v1) (sd @v2)) p,?_⟩
   refine hN _ _ ?_
   clear hN N
   (repeat(first|((repeat(revert hN;revert N;apply Pn.out));refine wk (tw @h1 (tw @v1 (tw @h2 (tw @ab.eq_1 @aa.eq_1)))) ?_;(repeat(refine Pn.mk ?_;intro N hN)))|((try apply Or.inl);refine⟨_,aq.x (hw) (sd (tw @h1 (tw @v1 (tw @h2 (tw @ab.eq_1 @aa.eq_1))))),?_⟩;refine hN _ _ ?_;clear hN N)))
   refine⟨_,EB (h.frame (by(try dsimp only);omega) (sd @v1) (sd @v2)) hS hF p hx hy t ht,?_⟩
   refine hN _ _ ?_
   clear hN N
   have hb:=jD hS (gz ts) p t 4
   (repeat(first|((repeat(revert hN;revert N;apply Pn.out));refine wk (tw @h1 (tw @v1 (tw @h2 (tw @ab.eq_1 @aa.eq_1)))) ?_;(repeat(refine Pn.mk ?_;intro N hN)))|((try apply Or.inl);refine⟨_,aq.x (hw) (sd (tw @h1 (tw @v1 (tw @h2 (tw @ab.eq_1 @aa.eq_1))))),?_⟩;refine hN _ _ ?_;clear hN N)))
   exact gQ (.inl rfl) (vs:=[.bool (decide (s.aw<=oJ s.az (gz ts) p t))]) (sd @Nat.zero_add) (by rw[show eu s ts p t=decide (s.aw<=oJ s.az (gz ts) p t) by simp[eu,h0,h2]];rfl)
  ·(repeat(first|((repeat(revert hN;revert N;apply Pn.out));refine wk (tw @h1 (tw @v1 (tw @h2 @ab.eq_1))) ?_;(repeat(refine Pn.mk ?_;intro N hN)))|((try apply Or.inl);refine⟨_,aq.x (hw) (sd (tw @h1 (tw @v1 (tw @h2 @ab.eq_1)))),?_⟩;refine hN _ _ ?_;clear hN N)))
   refine⟨_,LL (h.frame (by(try dsimp only);omega) (sd @v1) (sd @v2)) p,?_⟩
   refine hN _ _ ?_
   clear hN N
   (repeat(first|((repeat(revert hN;revert N;apply Pn.out));refine wk (tw @h1 (tw @v1 (tw @h2 @ab.eq_1))) ?_;(repeat(refine Pn.mk ?_;intro N hN)))|((try apply Or.inl);refine⟨_,aq.x (hw) (sd (tw @h1 (tw @v1 (tw @h2 @ab.eq_1)))),?_⟩;refine hN _ _ ?_;clear hN N)))
   exact gQ (.inl rfl) (vs:=[.bool false]) (sd @Nat.zero_add) (by rw[show eu s ts p t=false by simp[eu,h2]];rfl)
 ·rw[Bool.not_eq_true]at h0
  rw[h0]at hw
  (repeat(first|((repeat(revert hN;revert N;apply Pn.out));refine wk (tw @h1 (tw @v1 @ab.eq_1)) ?_;(repeat(refine Pn.mk ?_;intro N hN)))|((try apply Or.inl);refine⟨_,aq.x (hw) (sd (tw @h1 (tw @v1 @ab.eq_1))),?_⟩;refine hN _ _ ?_;clear hN N)))
  exact gQ (.inl rfl) (vs:=[.bool false]) (sd @Nat.zero_add) (by rw[show eu s ts p t=false by simp[eu,h0]];rfl)
def OW (rows:List (List AV)):Prop:=∀r∈rows,∃(x y:Int) (v:AV),r=[.int .i64 x,.int .i64 y,v]
def KU (σ:ax) (O:Id) (g:Rows) (n:Nat):Prop:=σ.next<=n/\(∀x:Id,x.bt<σ.next->x≠O->g x=σ.get x)/\∃rows,g O=some ⟨true,mP.lp,rows⟩/\OW rows
theorem L3 {σ:ax} {c T O:Id} {s:aG} {ts:List ad} (h:y6 σ.get σ.next c T O s ts) (hS:gJ s.az) (hF:∀q,0<=gz ts q->eK s.az (gz ts q)=true) (p:ah) (t:Int) (ht:eK s.az t=true):
  fQ (Call Tryz.prog) 229 [.ptr c 0 0,.agg (ab p),.int .i64 t] σ (fun r=>r=.bool (eu s ts p t)):=by
 unfold fQ PC
 exact Or.inl (bL _ _ _ _ _ (fun r σ' hr=>⟨_,by rw[hr];exact aV _ _ _,rfl⟩) (L2 (σ:=⟨V.ro σ.get,σ.next⟩) h.ro hS hF p t ht))
structure oq (g:Rows) (n:Nat) (c T O:Id) (s:aG) (ts:List ad):Prop where
 row:g c=some ⟨true,6,[[.sl (s.az.aC.map cw),.sl (s.az.ae.map bh),.sl (s.cr.ae.map ai),.int .i64 s.aw,.map T mP,.map O mP]]⟩
 tl:g T=some ⟨true,mP.lp,ts.map ai⟩
 op:∃rows,g O=some ⟨true,mP.lp,rows⟩/\OW rows
 cv:c.bt<n
 tv:T.bt<n
 ov:O.bt<n
 cT:c≠T
 cO:c≠O
 TO:T≠O
theorem oq.OE {g:Rows} {n:Nat} {c T O:Id} {s:aG} {ts:List ad} (h:oq g n c T O s ts):y6 g n c T O s ts:=⟨⟨_,h.row⟩,⟨_,h.tl⟩,h.cv,h.tv,h.ov⟩
theorem oq.look {σ:ax} {g:Rows} {n:Nat} {c T O:Id} {s:aG} {ts:List ad} (h:oq σ.get σ.next c T O s ts) (k:KU σ O g n):oq g n c T O s ts:=
 ⟨(k.2.1 _ h.cv h.cO).trans h.row,(k.2.1 _ h.tv h.TO).trans h.tl,k.2.2,Nat.lt_of_lt_of_le h.cv k.1,Nat.lt_of_lt_of_le h.tv k.1,Nat.lt_of_lt_of_le h.ov k.1,h.cT,h.cO,h.TO⟩
theorem oq.frame {g g':Rows} {n n':Nat} {c T O:Id} {s:aG} {ts:List ad} (h:oq g n c T O s ts) (hn:n<=n') (hf:∀x:Id,x.bt<n->g' x=g x):oq g' n' c T O s ts:=
 ⟨(hf _ h.cv).trans h.row,(hf _ h.tv).trans h.tl,by rw[hf _ h.ov];exact h.op,Nat.lt_of_lt_of_le h.cv hn,Nat.lt_of_lt_of_le h.tv hn,Nat.lt_of_lt_of_le h.ov hn,h.cT,h.cO,h.TO⟩
theorem Ab {l:List ad} {p:ah}:eC l p<0↔∀t∈l,t.bH≠p:=by
 unfold eC pr
 by_cases h:(l.findIdx fun c=>decide (c.bH=p))<l.length
 ·rw[if_pos h]
  obtain⟨t,ht,h2⟩:=List.findIdx_lt_length.1 h
  exact⟨fun h=>by omega,fun h=>absurd (by simpa using h2) (h t ht)⟩
 ·rw[if_neg h]
  exact⟨fun _ t ht e=>h (List.findIdx_lt_length.2 ⟨t,ht,by simp[e]⟩),fun _=>by omega⟩
theorem ID {l:List ad} (h:qS l) {k:Nat} (hk:k<l.length):eC (l.take k) (aO l k).bH<0:=by
 rw[Ab]
 intro t ht e
 obtain⟨j,hj,rfl⟩:=List.getElem_of_mem ht
 have I2:j<k:=by rw[List.length_take]at hj;omega
 have:=h j k I2 hk
 rw[List.getElem_take]at e
 have e2:aO l j=l[j]'(by omega):=by unfold aO;rw[List.getD_eq_getElem?_getD,List.getElem?_eq_getElem (by omega)];rfl
 rw[e2,e]at this
 simp[j5]at this
theorem KF {l:List ad} {k:Nat} (hk:k<l.length):(l.take k).map ai++[[.int .i64 (aO l k).bH.eI,.int .i64 (aO l k).bH.eB,.int .i64 (aO l k).bq]]=(l.take (k+1)).map ai:=by
 have e2:aO l k=l[k]:=by unfold aO;rw[List.getD_eq_getElem?_getD,List.getElem?_eq_getElem hk];rfl
 rw[List.take_succ_eq_append_getElem hk,List.map_append,e2]
 rfl
theorem gJ.KZ {s:au} {l:List ad} (hA:jM s l):∀q,0<=gz l q->eK s (gz l q)=true:=fun _ h=>GJ hA h
def jh (ps:List ah) (i:Nat):ah:=ps.getD i ⟨0,0⟩
theorem jt {ps:List ah} {i:Nat} (h:i<ps.length):jh ps i=ps[i]:=by simp[jh,List.getD_eq_getElem?_getD,h]
theorem yu {ps:List ah} {i:Nat} (h:i<ps.length):jh ps i∈ps:=by rw[jt h];exact List.getElem_mem h
theorem sk {ps:List ah} {i:Nat} (h:i<ps.length):(ps.map ab)[i]? =some (ab (jh ps i)):=by simp[jh,List.getD_eq_getElem?_getD,h]
def lO (ps:List ah):Prop:=ps.Pairwise fun a b=>j5 a b=true
theorem lO.at_ {ps:List ah} (h:lO ps) {i j:Nat} (Cg:i<j) (hj:j<ps.length):j5 (jh ps i) (jh ps j)=true:=by
 rw[jt hj,jt (by omega)]
 exact List.pairwise_iff_getElem.1 h i j (by omega) hj Cg
def jr (ps:List ah) (p:ah):Nat:=ps.findIdx fun q=> !j5 q p
theorem yd (ps:List ah) (p:ah):jr ps p<=ps.length:=List.findIdx_le_length
theorem D6 {ps:List ah} {p:ah} {x:Nat} (h:x<jr ps p):j5 (jh ps x) p=true:=by
 have hx:x<ps.length:=Nat.lt_of_lt_of_le h (yd ps p)
 have:=List.not_of_lt_findIdx h
 rw[jt hx]
 simpa using this
theorem yc {ps:List ah} {p:ah} (hR:lO ps) {x:Nat} (h:jr ps p<=x) (hx:x<ps.length):j5 (jh ps x) p=false:=by
 have h0:jr ps p<ps.length:=by omega
 have h1:j5 (jh ps (jr ps p)) p=false:=by
  have:=List.findIdx_getElem (p:=fun q=> !j5 q p) (xs:=ps) (w:=h0)
  rw[jt h0]
  have e:(!j5 ps[jr ps p] p)=true:=this
  simpa using e
 by_cases he:jr ps p=x
 ·rw[<-he];exact h1
 ·have h2:=hR.at_ (show jr ps p<x by omega) hx
  cases hc:j5 (jh ps x) p
  ·rfl
  ·rw[gV h2 hc]at h1;cases h1
def oF (ps:List ah) (p:ah):List ah:=if jr ps p<ps.length/\jh ps (jr ps p)=p then ps else ps.take (jr ps p)++p::ps.drop (jr ps p)
theorem Ib (ps:List ah) (p:ah):(oF ps p).length<=ps.length+1:=by
 unfold oF
 have:=yd ps p
 split
 ·omega
 ·simp;omega
theorem HT (ps:List ah) (p x:ah):x∈oF ps p↔x=p∨x∈ps:=by
 unfold oF
 split
 ·rename_i h
  refine⟨.inr,fun hx=>hx.elim (fun e=>?_) id⟩
  rw[e,<-h.2];exact yu h.1
 ·have:x∈ps↔x∈ps.take (jr ps p)++ps.drop (jr ps p):=by rw[List.take_append_drop]
  rw[this]
  simp only[List.mem_append,List.mem_cons]
  constructor
  ·rintro(h|h|h)
   ·exact .inr (.inl h)
   ·exact .inl h
   ·exact .inr (.inr h)
  ·rintro(h|h|h)
   ·exact .inr (.inl h)
   ·exact .inl h
   ·exact .inr (.inr h)
theorem Ic {ps:List ah} (hR:lO ps) (p:ah):lO (oF ps p):=by
 unfold oF
 split
 ·exact hR
 ·rename_i kN
  have hd:∀x∈ps.drop (jr ps p),j5 p x=true:=fun x hx=>by
   obtain⟨j,hj,rfl⟩:=List.getElem_of_mem hx
   rw[List.length_drop]at hj
   rw[List.getElem_drop]
   have gq:jr ps p+j<ps.length:=by omega
   have h1:=yc (p:=p) hR (Nat.le_add_right _ j) gq
   rw[<-jt gq]
   refine ye h1 fun he=>?_
   by_cases h0:j=0
   ·subst h0
    exact kN ⟨by omega,by simpa using he⟩
   ·have:=hR.at_ (show jr ps p<jr ps p+j by omega) gq
    rw[he]at this
    have h2:=yc (p:=p) hR (Nat.le_refl _) (show jr ps p<ps.length by omega)
    rw[this]at h2;cases h2
  have ht:∀x∈ps.take (jr ps p),j5 x p=true:=fun x hx=>by
   obtain⟨j,hj,rfl⟩:=List.getElem_of_mem hx
   rw[List.length_take]at hj
   rw[List.getElem_take]
   have:=D6 (ps:=ps) (p:=p) (x:=j) (by omega)
   rwa [jt (by omega)]at this
  refine List.pairwise_append.2 ⟨hR.sublist (List.take_sublist _ _),List.pairwise_cons.2 ⟨hd,hR.sublist (List.drop_sublist _ _)⟩,fun x hx y hy=>?_⟩
  rcases List.mem_cons.1 hy with rfl|hy
  ·exact ht x hx
  ·exact gV (ht x hx) (hd y hy)
theorem Ed:∀{ps qs:List ah},lO ps->lO qs->(∀x,x∈ps↔x∈qs)->ps=qs
 |[],[],_,_,_=>rfl
 |[],q::qs,_,_,h=>absurd ((h q).2 (by simp)) (by simp)
 |p::ps,[],_,_,h=>absurd ((h p).1 (by simp)) (by simp)
 |p::ps,q::qs,hp,hq,h=>by
  obtain⟨p1,p2⟩:=List.pairwise_cons.1 hp
  obtain⟨q1,q2⟩:=List.pairwise_cons.1 hq
  have e:p=q:=by
   rcases List.mem_cons.1 ((h p).1 (by simp))with e|e
   ·exact e
   ·rcases List.mem_cons.1 ((h q).2 (by simp))with e'|e'
    ·exact e'.symm
    ·have:=HR (q1 p e)
     rw[p1 q e']at this;cases this
  subst e
  congr 1
  refine Ed p2 q2 fun x=>⟨fun hx=>?_,fun hx=>?_⟩
  ·rcases List.mem_cons.1 ((h x).1 (List.mem_cons_of_mem _ hx))with e|e
   ·subst e;have:=p1 x hx;rw[lX]at this;cases this
   ·exact e
  ·rcases List.mem_cons.1 ((h x).2 (List.mem_cons_of_mem _ hx))with e|e
   ·subst e;have:=q1 x hx;rw[lX]at this;cases this
   ·exact e
def Oo (σ:ax) (kp:Id->Prop) (ps:List ah) (r:AV) (σ':ax):Prop:=
 ∃o:Id,r=.own o 0 ps.length/\σ'.get o=some ⟨true,2,ps.map ab⟩/\σ.next<=σ'.next/\o.bt<σ'.next/\(σ.next<=o.bt∨¬kp o)/\∀x:Id,x.bt<σ.next->kp x->σ'.get x=σ.get x
theorem Lo {ps:List ah} {i:Nat} {q:ah}:(ps.map ab).set i (ab q)=(ps.set i q).map ab:=List.map_set.symm
def xi (ps:List ah) (p:ah) (i:Nat):List ah:=(ps++[p]).take (i+1)++ps.drop i
theorem om (ps:List ah) (p:ah) {i:Nat} (h:i<=ps.length):(xi ps p i).length=ps.length+1:=by simp[xi];omega
theorem Nl {ps:List ah} {p:ah} {i j:Nat} (hi:i<=ps.length) (hj:j<i):jh (xi ps p i) j=jh ps j:=by
 unfold jh xi
 rw[List.getD_eq_getElem?_getD,List.getD_eq_getElem?_getD,List.getElem?_append_left (by simp;omega),List.getElem?_take,if_pos (by omega),List.getElem?_append_left (by omega)]
theorem F6 (ps:List ah) (p:ah):xi ps p ps.length=ps++[p]:=by
 unfold xi
 rw[List.drop_length,List.append_nil,List.take_of_length_le (by simp)]
theorem II {ps:List ah} {p:ah} {i:Nat} (hi:i<ps.length):(xi ps p (i+1)).set (i+1) (jh ps i)=xi ps p i:=by
 refine List.ext_getElem? fun j=>?_
 rw[List.getElem?_set,om ps p (by omega)]
 unfold xi
 by_cases hj:i+1=j
 ·subst hj
  rw[if_pos rfl,if_pos (by omega),List.getElem?_append_right (by simp;omega)]
  simp only[List.length_take,List.length_append,List.length_cons,List.length_nil]
  rw[show i+1-min (i+1) (ps.length+(0+1))=0 by omega,List.getElem?_drop,Nat.add_zero,List.getElem?_eq_getElem hi,jt hi]
 ·rw[if_neg hj]
  by_cases dJ:j<i+1
  ·rw[List.getElem?_append_left (by simp;omega),List.getElem?_append_left (by simp;omega),List.getElem?_take,List.getElem?_take,if_pos (by omega),if_pos dJ]
  ·rw[List.getElem?_append_right (by simp;omega),List.getElem?_append_right (by simp;omega)]
   simp only[List.length_take,List.length_append,List.length_cons,List.length_nil,List.getElem?_drop]
   congr 1
   omega
theorem KI {ps:List ah} {p:ah} {i:Nat} (hi:i<=ps.length):(xi ps p i).set i p=ps.take i++p::ps.drop i:=by
 refine List.ext_getElem? fun j=>?_
 rw[List.getElem?_set,om ps p hi]
 unfold xi
 by_cases hj:i=j
 ·subst hj
  rw[if_pos rfl,if_pos (by omega),List.getElem?_append_right (by simp;omega)]
  simp[Nat.min_eq_left hi]
 ·rw[if_neg hj]
  by_cases dJ:j<i
  ·rw[List.getElem?_append_left (by simp;omega),List.getElem?_append_left (by simp;omega),List.getElem?_take,List.getElem?_take,if_pos (by omega),if_pos dJ,List.getElem?_append_left (by omega)]
  ·rw[List.getElem?_append_right (by simp;omega),List.getElem?_append_right (by simp;omega)]
   simp only[List.length_take,List.length_append,List.length_cons,List.length_nil]
   rw[show j-min i ps.length=(j-i-1)+1 by omega,List.getElem?_cons_succ]
   congr 1
   omega
theorem KL {X:ft} {Q:Ex->Env->ax->Prop} {N:Env->ax->Prop} {c:VC} {env:Env} {σ:ax} {id:Nat} (I:Env->ax->Prop) (h2:∀e s,I e s->N e s) (h1:∀N':Env->ax->Prop,(∀e s,I e s->N' e s)->ej X c (aX id (dn N' Q)) env σ):ej X c (aX id (dn N Q)) env σ:=h1 N h2
theorem vO (ps:List ah) (hR:lO ps) (hlen:ps.length<=1048576) (p:ah) (o:Id) (σ:ax) (ho:σ.get o=some ⟨true,2,ps.map ab⟩) (sY:o.bt<σ.next):
  Call Tryz.prog 223 [.own o 0 ps.length,.agg (ab p)] σ (Oo σ (fun x=>(x=o)=False) (oF ps p)):=by
 refine iq eE rfl fun kM=>?_
 clear kM
 have pq:=ef sY
 have QX:=yd ps p
 have Ch:(ps.map ab).length=ps.length:=by simp
 (try((repeat(revert hN;revert N;apply Pn.out));refine wk (tw @ab.eq_1 @pq) ?_;(repeat(refine Pn.mk ?_;intro N hN))))
 refine KL (fun e s=>e 5=.int .i64 (jr ps p:Int)/\e 0=.own o 0 ps.length/\e 3=.ptr ⟨223000000,σ.next⟩ 0 0/\s.get ⟨223000000,σ.next⟩=some ⟨true,2,[ab p]⟩/\s.get o=some ⟨true,2,ps.map ab⟩/\σ.next<s.next/\∀x:Id,x.bt<σ.next->s.get x=σ.get x) ?_ ?_
 ·rintro e s ⟨f5,f0,f3,fg0,fg1,fn,ffr⟩
  refine hN _ _ ?_
  clear hN N
  have JW:=ef (i:=o) (n:=s.next) (by omega)
  obtain⟨a,ha⟩:∃a,jr ps p=a:=⟨_,rfl⟩
  rw[ha]at f5 QX
  by_cases hex:a<ps.length/\jh ps a=p
  ·have dJ:(a:Int)<(ps.length:Int):=by omega
   have hg:=sk hex.1
   have hx:decide ((jh ps a).eI=p.eI)=true:=decide_eq_true (by rw[hex.2])
   have hy:decide ((jh ps a).eB=p.eB)=true:=decide_eq_true (by rw[hex.2])
   (try((repeat(revert hN;revert N;apply Pn.out));refine wk (tw @f5 (tw @f0 (tw @f3 (tw @fg0 (tw @fg1 (tw @dJ (tw @hg (tw @hx (tw @hy (tw @Ch @ab.eq_1)))))))))) ?_;(repeat(refine Pn.mk ?_;intro N hN))))
   have hp:oF ps p=ps:=by unfold oF;rw[ha,if_pos hex]
   rw[hp]
   exact gQ (.inl rfl) (vs:=[.own o 0 ps.length]) (sd @Nat.zero_add) ⟨o,rfl,sd @fg1,by(try dsimp only);omega,by(try dsimp only);omega,.inr (by simp),fun x hx _=>sd (ffr x hx)⟩
  refine AZ (fun N hN=>?_)
  refine Dg (fun e s=>e 5=.int .i64 (a:Int)/\e 0=.own o 0 ps.length/\e 3=.ptr ⟨223000000,σ.next⟩ 0 0/\s.get ⟨223000000,σ.next⟩=some ⟨true,2,[ab p]⟩/\s.get o=some ⟨true,2,ps.map ab⟩/\σ.next<s.next/\∀x:Id,x.bt<σ.next->s.get x=σ.get x) ?_ ?_
  ·clear f5 f0 f3 fg0 fg1 fn ffr JW
   rintro e s ⟨f5,f0,f3,fg0,fg1,fn,ffr⟩
   refine hN _ _ ?_
   clear hN N
   have JW:=ef (i:=o) (n:=s.next) (by omega)
   have Oa:=ef (i:=⟨223000000,σ.next⟩) (n:=s.next) fn
   have e1:ps.length+1<=16777216:=by omega
   have oE:ps.map ab++[[.int .i64 p.eI,.int .i64 p.eB]]=(xi ps p ps.length).map ab:=by rw[F6];simp[ab]
   have rn:IntKind.i64.wrap ((ps.length:Int)+1-1)=(ps.length:Int):=by rw[bz (by omega)];omega
   have hp:oF ps p=ps.take a++p::ps.drop a:=by unfold oF;rw[ha,if_neg hex]
   have Mz:((⟨223000000,σ.next⟩:Id)=o)=False:=by
    refine eq_false fun h=>?_
    rw[<-h]at sY;exact Nat.lt_irrefl _ sY
   (try((repeat(revert hN;revert N;apply Pn.out));refine wk (tw @f5 (tw @f0 (tw @f3 (tw @fg0 (tw @fg1 (tw @JW (tw @Oa (tw @Mz (tw @Ch (tw @e1 (tw @oE (tw @rn (tw @Int.natCast_add (tw @Int.cast_ofNat_Int @ab.eq_1)))))))))))))) ?_;(repeat(refine Pn.mk ?_;intro N hN))))
   refine aM (fun m env st=>∃i:Nat,m=i/\a<=i/\i<=ps.length/\env 6=.int .i64 (i:Int)/\st.get ⟨223006003,s.next⟩=some ⟨true,2,(xi ps p i).map ab⟩/\st.get ⟨223000000,σ.next⟩=some ⟨true,2,[ab p]⟩/\s.next<st.next/\∀x:Id,x.bt<σ.next->(x=o)=False->st.get x=σ.get x) ps.length ⟨ps.length,rfl,QX,Nat.le_refl _,sd (tw @rn (tw @Int.natCast_add @Int.cast_ofNat_Int)),sd @oE,sd (tw @fg0 (tw @Oa (tw @Mz @ab.eq_1))),by(try dsimp only);omega,fun x hx y5=>by
    have h1:=ef (i:=x) (n:=s.next) (by omega)
    have h2:=ffr x hx
    simp only[go_sem, ↓reduceIte,Nat.reduceEqDiff,Nat.reduceAdd,Nat.reduceSub,Nat.reduceLeDiff,reduceCtorEq,h1,h2,y5]⟩ ?_
   rintro m env_b st_b ⟨i,hmi,bl,ble,b6,bg0,bg1,bn,eP⟩ bkp
   have b0:=bkp 0 (by kernel_rfl)
   have b3:=bkp 3 (by kernel_rfl)
   have b5:=bkp 5 (by kernel_rfl)
   simp only[go_sem, ↓reduceIte,Nat.reduceEqDiff,Nat.reduceAdd,Nat.reduceSub,Nat.reduceLeDiff,reduceCtorEq,f0,f3,f5,ab]at b0 b3 b5
   clear bkp
   have JT:((xi ps p i).map ab).length=ps.length+1:=by rw[List.length_map,om ps p ble]
   by_cases Gh:(a:Int)<(i:Int)
   ·obtain⟨k,rfl⟩:∃k,i=k+1:=⟨i-1,by omega⟩
    have eV:k<ps.length:=by omega
    have z8:IntKind.i64.wrap (((k+1:Nat):Int)-1)=(k:Int):=by rw[bz (by omega)];omega
    have hq:((xi ps p (k+1)).map ab)[k]? =some (ab (jh ps k)):=by rw[sk (by rw[om ps p ble];omega),Nl ble (Nat.lt_succ_self _)]
    have wN:∃z,((xi ps p (k+1)).map ab)[k+1]? =some (ab z):=⟨_,sk (by rw[om ps p ble];omega)⟩
    obtain⟨z,wN⟩:=wN
    have eQ:((xi ps p (k+1)).map ab).set (k+1) (ab (jh ps k))=(xi ps p k).map ab:=by rw[Lo,II eV]
    have c1:(k:Int)<(ps.length:Int)+1:=by omega
    have c2:(k:Int)+1<(ps.length:Int)+1:=by omega
    have c3:(0:Int)<=(k:Int)+1:=by omega
    have c4:((k:Int)+1).toNat=k+1:=by omega
    have c5:(a:Int)<(k:Int)+1:=by omega
    have c6:IntKind.i64.wrap ((k:Int)+1-1)=(k:Int):=by rw[bz (by omega)];omega
    rw[ab]at eQ hq wN
    (try((repeat(revert hN;revert N;apply Pn.out));refine wk (tw @b0 (tw @b3 (tw @b5 (tw @b6 (tw @bg0 (tw @bg1 (tw @Gh (tw @z8 (tw @hq (tw @wN (tw @eQ (tw @JT (tw @c1 (tw @c2 (tw @c3 (tw @c4 (tw @c5 (tw @c6 (tw @Int.natCast_add @Int.cast_ofNat_Int))))))))))))))))))) ?_;(repeat(refine Pn.mk ?_;intro N hN))))
    exact⟨k,by omega,k,rfl,by omega,by omega,sd @c6,sd @eQ,sd (tw @bg1 @Mz),by(try dsimp only);omega,fun x hx y5=>by
     have h1:=ef (i:=x) (n:=s.next) (by omega)
     have h2:=eP x hx y5
     simp only[go_sem, ↓reduceIte,Nat.reduceEqDiff,Nat.reduceAdd,Nat.reduceSub,Nat.reduceLeDiff,reduceCtorEq,h1,h2]⟩
   ·obtain rfl:i=a:=by omega
    have eQ:((xi ps p i).map ab).set i (ab p)=(oF ps p).map ab:=by rw[Lo,KI QX,hp]
    have wN:∃z,((xi ps p i).map ab)[i]? =some (ab z):=⟨_,sk (by rw[om ps p ble];omega)⟩
    obtain⟨z,wN⟩:=wN
    have lL:(oF ps p).length=ps.length+1:=by rw[hp];simp;omega
    have c1:(i:Int)<(ps.length:Int)+1:=by omega
    rw[ab]at eQ wN
    (try((repeat(revert hN;revert N;apply Pn.out));refine wk (tw @b0 (tw @b3 (tw @b5 (tw @b6 (tw @bg0 (tw @bg1 (tw @Gh (tw @wN (tw @eQ (tw @JT (tw @c1 (tw @Int.natCast_add (tw @Int.cast_ofNat_Int @ab.eq_1))))))))))))) ?_;(repeat(refine Pn.mk ?_;intro N hN))))
    rw[<-lL]
    exact gQ (.inl rfl) (vs:=[.own ⟨223006003,s.next⟩ 0 (oF ps p).length]) (sd (tw @b0 @lL)) ⟨⟨223006003,s.next⟩,rfl,sd @eQ,by(try dsimp only);omega,by(try dsimp only);omega,.inl (by(try dsimp only);omega),fun x hx y5=>by
     have h1:=ef (i:=x) (n:=s.next) (by omega)
     have h2:=eP x hx y5
     simp only[go_sem, ↓reduceIte,Nat.reduceEqDiff,Nat.reduceAdd,Nat.reduceSub,Nat.reduceLeDiff,reduceCtorEq,h1,h2]⟩
  ·intro N hN
   by_cases DL:(a:Int)<(ps.length:Int)
   ·have hg:=sk (ps:=ps) (i:=a) (by omega)
    by_cases hx:(jh ps a).eI=p.eI
    ·have sa:decide ((jh ps a).eI=p.eI)=true:=decide_eq_true hx
     have Rc:decide ((jh ps a).eB=p.eB)=false:=decide_eq_false fun h=>hex ⟨by omega,uv hx h⟩
     (try((repeat(revert hN;revert N;apply Pn.out));refine wk (tw @f5 (tw @f0 (tw @f3 (tw @fg0 (tw @fg1 (tw @DL (tw @hg (tw @sa (tw @Rc (tw @Ch @ab.eq_1)))))))))) ?_;(repeat(refine Pn.mk ?_;intro N hN))))
     exact⟨sd @f5,sd @f0,sd @f3,sd (tw @fg0 @ab.eq_1),sd @fg1,by(try dsimp only);omega,fun x hx=>sd (ffr x hx)⟩
    ·have sa:decide ((jh ps a).eI=p.eI)=false:=decide_eq_false hx
     (try((repeat(revert hN;revert N;apply Pn.out));refine wk (tw @f5 (tw @f0 (tw @f3 (tw @fg0 (tw @fg1 (tw @DL (tw @hg (tw @sa (tw @Bool.false_and (tw @Ch @ab.eq_1)))))))))) ?_;(repeat(refine Pn.mk ?_;intro N hN))))
     exact⟨sd @f5,sd @f0,sd @f3,sd (tw @fg0 @ab.eq_1),sd @fg1,by(try dsimp only);omega,fun x hx=>sd (ffr x hx)⟩
   ·(try((repeat(revert hN;revert N;apply Pn.out));refine wk (tw @f5 (tw @f0 (tw @f3 (tw @fg0 (tw @fg1 (tw @DL (tw @Ch @ab.eq_1))))))) ?_;(repeat(refine Pn.mk ?_;intro N hN))))
    exact⟨sd @f5,sd @f0,sd @f3,sd (tw @fg0 @ab.eq_1),sd @fg1,by(try dsimp only);omega,fun x hx=>sd (ffr x hx)⟩
 intro N hN
 refine aM (fun m env st=>∃a:Nat,m=a/\jr ps p<=a/\a<=ps.length/\env 5=.int .i64 (a:Int)/\st.get ⟨223000000,σ.next⟩=some ⟨true,2,[ab p]⟩/\st.get o=some ⟨true,2,ps.map ab⟩/\σ.next<st.next/\∀x:Id,x.bt<σ.next->st.get x=σ.get x) ps.length ⟨ps.length,rfl,QX,Nat.le_refl _,sd @Nat.zero_add,sd @ab.eq_1,sd (tw @pq @ho),by(try dsimp only);omega,fun x hx=>by have:=ef hx;simp only[go_sem, ↓reduceIte,Nat.reduceEqDiff,Nat.reduceAdd,Nat.reduceSub,Nat.reduceLeDiff,reduceCtorEq,this]⟩ ?_
 rintro m env_a st_a ⟨a,hma,al,ale,a5,ag0,ag1,an,dq⟩ akp
 have a0:=akp 0 (by kernel_rfl)
 have a3:=akp 3 (by kernel_rfl)
 simp only[go_sem, ↓reduceIte,Nat.reduceEqDiff,Nat.reduceAdd,Nat.reduceSub,Nat.reduceLeDiff,reduceCtorEq,ab]at a0 a3
 clear akp
 by_cases h0:(0:Int)<(a:Int)
 ·obtain⟨b,rfl⟩:∃b,a=b+1:=⟨a-1,by omega⟩
  have mM:b<ps.length:=by omega
  have fa:(b:Int)<(ps.length:Int):=by omega
  have hg:=sk mM
  have hw:IntKind.i64.wrap (((b+1:Nat):Int)-1)=(b:Int):=by rw[bz (by omega)];omega
  have hq:=mZ (jh ps b) p
  cases hc:j5 (jh ps b) p
  ·rw[hc]at hq
   (repeat(first|((repeat(revert hN;revert N;apply Pn.out));refine wk (tw @a0 (tw @a3 (tw @a5 (tw @ag0 (tw @ag1 (tw @h0 (tw @fa (tw @hg (tw @hw (tw @Ch @ab.eq_1)))))))))) ?_;(repeat(refine Pn.mk ?_;intro N hN)))|((try apply Or.inl);refine⟨_,aq.x (hq) (sd (tw @a0 (tw @a3 (tw @a5 (tw @ag0 (tw @ag1 (tw @h0 (tw @fa (tw @hg (tw @hw (tw @Ch @ab.eq_1))))))))))),?_⟩;refine hN _ _ ?_;clear hN N)))
   refine⟨b,by omega,b,rfl,?_,by omega,sd @hw,sd (tw @ag0 @ab.eq_1),sd @ag1,by(try dsimp only);omega,fun x hx=>sd (dq x hx)⟩
   rcases Nat.lt_or_ge b (jr ps p)with h|h
   ·rw[D6 h]at hc;cases hc
   ·exact h
  ·rw[hc]at hq
   have jW:jr ps p=b+1:=by
    rcases Nat.lt_or_ge b (jr ps p)with h|h
    ·omega
    ·have:=yc (p:=p) hR h mM
     rw[hc]at this;cases this
   (repeat(first|((repeat(revert hN;revert N;apply Pn.out));refine wk (tw @a0 (tw @a3 (tw @a5 (tw @ag0 (tw @ag1 (tw @h0 (tw @fa (tw @hg (tw @hw (tw @Ch @ab.eq_1)))))))))) ?_;(repeat(refine Pn.mk ?_;intro N hN)))|((try apply Or.inl);refine⟨_,aq.x (hq) (sd (tw @a0 (tw @a3 (tw @a5 (tw @ag0 (tw @ag1 (tw @h0 (tw @fa (tw @hg (tw @hw (tw @Ch @ab.eq_1))))))))))),?_⟩;refine hN _ _ ?_;clear hN N)))
   exact⟨sd (tw @a5 @jW),sd @a0,sd @a3,sd (tw @ag0 @ab.eq_1),sd @ag1,by(try dsimp only);omega,fun x hx=>sd (dq x hx)⟩
 ·have jW:jr ps p=a:=by omega
  (try((repeat(revert hN;revert N;apply Pn.out));refine wk (tw @a0 (tw @a3 (tw @a5 (tw @ag0 (tw @ag1 (tw @h0 (tw @Ch @ab.eq_1))))))) ?_;(repeat(refine Pn.mk ?_;intro N hN))))
  exact⟨sd (tw @a5 @jW),sd @a0,sd @a3,sd (tw @ag0 @ab.eq_1),sd @ag1,by(try dsimp only);omega,fun x hx=>sd (dq x hx)⟩
def ja (l:List ad) (ps:List ah) (q:ah):List ah:=if yp q=true/\eC l q<0 then oF ps q else ps
def eR (l:List ad) (ps:List ah) (p:ah):Nat->List ah
 |0=>ps
 |d+1=>ja l (eR l ps p d) (aW p d)
def eA (l:List ad):Nat->List ah
 |0=>[]
 |i+1=>eR l (eA l i) (aO l i).bH 4
def iJ (l:List ad):List ah:=eA l l.length
theorem yh {l:List ad} {ps:List ah} (h:lO ps) (q:ah):lO (ja l ps q):=by
 unfold ja;split
 ·exact Ic h q
 ·exact h
theorem pC {l:List ad} {ps:List ah} (h:lO ps) (p:ah):∀d,lO (eR l ps p d)
 |0=>h
 |d+1=>yh (pC h p d) _
theorem pD (l:List ad):∀i,lO (eA l i)
 |0=>List.Pairwise.nil
 |i+1=>pC (pD l i) _ 4
theorem yg (l:List ad) (ps:List ah) (q:ah):(ja l ps q).length<=ps.length+1:=by
 unfold ja;split
 ·exact Ib ps q
 ·omega
theorem pB (l:List ad) (ps:List ah) (p:ah):∀d,(eR l ps p d).length<=ps.length+d
 |0=>Nat.le_refl _
 |d+1=>by
  have:=pB l ps p d
  have:=yg l (eR l ps p d) (aW p d)
  simp only[eR];omega
theorem ko (l:List ad):∀i,(eA l i).length<=i*4
 |0=>Nat.le_refl _
 |i+1=>by
  have:=ko l i
  have:=pB l (eA l i) (aO l i).bH 4
  simp only[eA];omega
theorem uf (l:List ad) (ps:List ah) (p:ah) (x:ah):∀d,x∈eR l ps p d↔x∈ps∨∃k,k<d/\x=aW p (k:Nat)/\yp x=true/\eC l x<0
 |0=>⟨.inl,fun h=>h.elim id fun⟨_,h,_⟩=>absurd h (Nat.not_lt_zero _)⟩
 |d+1=>by
  simp only[eR,ja]
  have ih:=uf l ps p x d
  split
  ·rename_i h
   rw[HT,ih]
   constructor
   ·rintro(rfl|h1|⟨k,h1,h2⟩)
    ·exact .inr ⟨d,Nat.lt_succ_self _,rfl,h⟩
    ·exact .inl h1
    ·exact .inr ⟨k,by omega,h2⟩
   ·rintro(h1|⟨k,h1,h2⟩)
    ·exact .inr (.inl h1)
    ·by_cases hk:k=d
     ·subst hk;exact .inl h2.1
     ·exact .inr (.inr ⟨k,by omega,h2⟩)
  ·rename_i h
   rw[ih]
   constructor
   ·rintro(h1|⟨k,h1,h2⟩)
    ·exact .inl h1
    ·exact .inr ⟨k,by omega,h2⟩
   ·rintro(h1|⟨k,h1,h2⟩)
    ·exact .inl h1
    ·by_cases hk:k=d
     ·subst hk;rw[h2.1]at h2;exact absurd h2.2 h
     ·exact .inr ⟨k,by omega,h2⟩
def y9 (l:List ad) (x:ah):Prop:=yp x=true/\eC l x<0/\∃i d:Nat,i<l.length/\d<4/\x=aW (aO l i).bH d
theorem ug (l:List ad) (x:ah):∀i,x∈eA l i↔∃j d:Nat,j<i/\d<4/\x=aW (aO l j).bH d/\yp x=true/\eC l x<0
 |0=>⟨fun h=>(by cases h),fun⟨_,_,h,_⟩=>absurd h (Nat.not_lt_zero _)⟩
 |i+1=>by
  simp only[eA]
  rw[uf,ug l x i]
  constructor
  ·rintro(⟨j,d,h1,h2⟩|⟨d,h1,h2⟩)
   ·exact⟨j,d,by omega,h2⟩
   ·exact⟨i,d,Nat.lt_succ_self _,h1,h2⟩
  ·rintro⟨j,d,h1,h2,h3⟩
   by_cases hj:j=i
   ·subst hj;exact .inr ⟨d,h2,h3⟩
   ·exact .inl ⟨j,d,by omega,h2,h3⟩
theorem wY (l:List ad) (x:ah):x∈iJ l↔y9 l x:=by
 unfold iJ y9
 rw[ug]
 exact⟨fun⟨j,d,h1,h2,h3,h4,h5⟩=>⟨h4,h5,j,d,h1,h2,h3⟩,fun⟨h4,h5,j,d,h1,h2,h3⟩=>⟨j,d,h1,h2,h3,h4,h5⟩⟩
theorem Fu (l:List ad) (hF:jU l) (σ:ax):Call Tryz.prog 147 [.dd [.sl (l.map ai)]] σ (Oo σ (fun _=>True) (iJ l)):=by
 refine iq eE rfl fun kM=>?_
 clear kM
 have hR:=hF.Oi
 have E6:=hF.A6
 (try((repeat(revert hN;revert N;apply Pn.out));refine wk @Nat.zero_add ?_;(repeat(refine Pn.mk ?_;intro N hN))))
 refine aM (fun n env st=>∃i:Nat,n=(l.length)-i/\i<=(l.length)/\env 4=.int .i64 (i:Int)/\(∃o:Id,env 3=.own o 0 (eA l i).length/\st.get o=some ⟨true,2,(eA l i).map ab⟩/\o.bt<st.next/\σ.next<=o.bt/\∀x:Id,x.bt<σ.next->st.get x=σ.get x)) (l.length) ⟨0,by omega,by omega,sl @Nat.zero_add,⟨⟨147001000,σ.next+1⟩,by simp only[go_sem, ↓reduceIte,Nat.reduceEqDiff,Nat.reduceAdd,Nat.reduceSub,Nat.reduceLeDiff,reduceCtorEq];rfl,by simp only[go_sem, ↓reduceIte,Nat.reduceEqDiff,Nat.reduceAdd,Nat.reduceSub,Nat.reduceLeDiff,reduceCtorEq];rfl,by(try dsimp only);omega,by(try dsimp only);omega,fun x hx=>by
  have:=ef (i:=x) (n:=σ.next+1) (by omega)
  simp only[go_sem, ↓reduceIte,Nat.reduceEqDiff,Nat.reduceAdd,Nat.reduceSub,Nat.reduceLeDiff,reduceCtorEq,this]⟩⟩ ?_
 rintro n_a env_a st_a ⟨i,rfl,ale,a4,mE⟩ dq
 have a0:=dq 0 (by kernel_rfl)
 simp only[go_sem, ↓reduceIte,Nat.reduceEqDiff,Nat.reduceAdd,Nat.reduceSub,Nat.reduceLeDiff,reduceCtorEq]at a0
 clear dq
 obtain⟨o,a3,ag,Rx,Qr,dq⟩:=mE
 by_cases hi:(i:Int)<(l.length:Int)
 ·have cE:∀{e:Env} {gg:Rows} {nx:Nat},(e 4=.int .i64 (IntKind.i64.wrap ((i:Int)+1)))->(∃o:Id,e 3=.own o 0 (eA l (i+1)).length/\gg o=some ⟨true,2,(eA l (i+1)).map ab⟩/\o.bt<nx/\σ.next<=o.bt/\∀x:Id,x.bt<σ.next->gg x=σ.get x)->∃m0,m0<(l.length)-i/\∃i:Nat,m0=(l.length)-i/\i<=(l.length)/\e 4=.int .i64 (i:Int)/\(∃o:Id,e 3=.own o 0 (eA l i).length/\gg o=some ⟨true,2,(eA l i).map ab⟩/\o.bt<nx/\σ.next<=o.bt/\∀x:Id,x.bt<σ.next->gg x=σ.get x):=fun x1 x2=>⟨_,by omega,i+1,rfl,by omega,(by rw[x1,aB (by omega)]),x2⟩
  have e9:i<l.length:=by omega
  (try((repeat(revert hN;revert N;apply Pn.out));refine wk (tw @a4 (tw @a0 (tw @a3 @hi))) ?_;(repeat(refine Pn.mk ?_;intro N hN))))
  refine aM (fun n env st=>∃d:Nat,n=(4)-d/\d<=(4)/\env 5=.int .i64 (d:Int)/\(∃o:Id,env 3=.own o 0 (eR l (eA l i) (aO l i).bH d).length/\st.get o=some ⟨true,2,(eR l (eA l i) (aO l i).bH d).map ab⟩/\o.bt<st.next/\σ.next<=o.bt/\∀x:Id,x.bt<σ.next->st.get x=σ.get x)) (4) ⟨0,by omega,by omega,sl (tw @a4 @a0),⟨o,by simp only[go_sem, ↓reduceIte,Nat.reduceEqDiff,Nat.reduceAdd,Nat.reduceSub,Nat.reduceLeDiff,reduceCtorEq,a3,eR],by simp only[go_sem, ↓reduceIte,Nat.reduceEqDiff,Nat.reduceAdd,Nat.reduceSub,Nat.reduceLeDiff,reduceCtorEq,ag,eR],by(try dsimp only);omega,Qr,fun x hx=>sd (dq x hx)⟩⟩ ?_
  rintro n_b env_b st_b ⟨d,rfl,ble,b5,bI0⟩ eP
  have b0:=eP 0 (by kernel_rfl);have b4:=eP 4 (by kernel_rfl)
  simp only[go_sem, ↓reduceIte,Nat.reduceEqDiff,Nat.reduceAdd,Nat.reduceSub,Nat.reduceLeDiff,reduceCtorEq,a4,a0]at b0 b4
  clear eP
  obtain⟨ob,b3,bg,bov,K0,eP⟩:=bI0
  by_cases hd:(d:Int)<4
  ·have eY:∀{e:Env} {gg:Rows} {nx:Nat},(e 5=.int .i64 (IntKind.i64.wrap ((d:Int)+1)))->(∃o:Id,e 3=.own o 0 (eR l (eA l i) (aO l i).bH (d+1)).length/\gg o=some ⟨true,2,(eR l (eA l i) (aO l i).bH (d+1)).map ab⟩/\o.bt<nx/\σ.next<=o.bt/\∀x:Id,x.bt<σ.next->gg x=σ.get x)->∃m0,m0<(4)-d/\∃d:Nat,m0=(4)-d/\d<=(4)/\e 5=.int .i64 (d:Int)/\(∃o:Id,e 3=.own o 0 (eR l (eA l i) (aO l i).bH d).length/\gg o=some ⟨true,2,(eR l (eA l i) (aO l i).bH d).map ab⟩/\o.bt<nx/\σ.next<=o.bt/\∀x:Id,x.bt<σ.next->gg x=σ.get x):=fun x1 x2=>⟨_,by omega,d+1,rfl,by omega,(by rw[x1,aB (by omega)]),x2⟩
   have j3:=fj e9
   have Ld:=rH (hF.pt e9)
   have dL:=rD (aO l i).bH d (gr (by omega)) Ld.1 Ld.2
   have Pw:=ua (aW (aO l i).bH d)
   have j9:=ef bov
   have Ch:((eR l (eA l i) (aO l i).bH d).map ab).length=(eR l (eA l i) (aO l i).bH d).length:=by simp
   cases hp:yp (aW (aO l i).bH d)
   ·rw[hp]at Pw
    have nV:eR l (eA l i) (aO l i).bH (d+1)=eR l (eA l i) (aO l i).bH d:=by
     simp only[eR,ja];rw[if_neg fun h=>by rw[hp]at h;cases h.1]
    (repeat(first|((repeat(revert hN;revert N;apply Pn.out));refine wk (tw @b5 (tw @b0 (tw @b4 (tw @b3 (tw @bg (tw @hd (tw @j3 (tw @j9 (tw @ai.eq_1 @ab.eq_1))))))))) ?_;(repeat(refine Pn.mk ?_;intro N hN)))|((try apply Or.inl);refine⟨_,aq.x (dL) (sd (tw @b5 (tw @b0 (tw @b4 (tw @b3 (tw @bg (tw @hd (tw @j3 (tw @j9 (tw @ai.eq_1 @ab.eq_1)))))))))),?_⟩;refine hN _ _ ?_;clear hN N)|((try apply Or.inl);refine⟨_,aq.x (Pw) (sd (tw @b5 (tw @b0 (tw @b4 (tw @b3 (tw @bg (tw @hd (tw @j3 (tw @j9 (tw @ai.eq_1 @ab.eq_1)))))))))),?_⟩;refine hN _ _ ?_;clear hN N)))
    exact eY (sd (tw @b5 (tw @b0 (tw @b4 @ab.eq_1)))) (by exact⟨ob,sd (tw @b3 @nV),sd (tw @bg (tw @j9 @nV)),by(try dsimp only);omega,K0,fun x hx=>by
     have h1:=ef (i:=x) (n:=st_b.next) (by omega)
     have h2:=ef (i:=x) (n:=st_b.next+1) (by omega)
     have h3:=eP x hx
     simp only[go_sem, ↓reduceIte,Nat.reduceEqDiff,Nat.reduceAdd,Nat.reduceSub,Nat.reduceLeDiff,reduceCtorEq,h1,h2,h3]⟩)
   ·rw[hp]at Pw
    have Bc:=pw l (aW (aO l i).bH d) hR (by omega)
    by_cases hx:eC l (aW (aO l i).bH d)<0
    ·have nV:eR l (eA l i) (aO l i).bH (d+1)=oF (eR l (eA l i) (aO l i).bH d) (aW (aO l i).bH d):=by
      simp only[eR,ja];rw[if_pos ⟨hp,hx⟩]
     have hl1:=pB l (eA l i) (aO l i).bH d
     have hl2:=ko l i
     (repeat(first|((repeat(revert hN;revert N;apply Pn.out));refine wk (tw @b5 (tw @b0 (tw @b4 (tw @b3 (tw @bg (tw @hd (tw @j3 (tw @j9 (tw @hx (tw @ai.eq_1 @ab.eq_1)))))))))) ?_;(repeat(refine Pn.mk ?_;intro N hN)))|((try apply Or.inl);refine⟨_,aq.x (dL) (sd (tw @b5 (tw @b0 (tw @b4 (tw @b3 (tw @bg (tw @hd (tw @j3 (tw @j9 (tw @hx (tw @ai.eq_1 @ab.eq_1))))))))))),?_⟩;refine hN _ _ ?_;clear hN N)|((try apply Or.inl);refine⟨_,aq.x (Pw) (sd (tw @b5 (tw @b0 (tw @b4 (tw @b3 (tw @bg (tw @hd (tw @j3 (tw @j9 (tw @hx (tw @ai.eq_1 @ab.eq_1))))))))))),?_⟩;refine hN _ _ ?_;clear hN N)|((try apply Or.inl);refine⟨_,aq.x (Bc) (sd (tw @b5 (tw @b0 (tw @b4 (tw @b3 (tw @bg (tw @hd (tw @j3 (tw @j9 (tw @hx (tw @ai.eq_1 @ab.eq_1))))))))))),?_⟩;refine hN _ _ ?_;clear hN N)))
     refine .inr (bL _ _ _ _ _ (fun r σ1 hq=>?_) (vO _ (pC (pD l i) _ d) (by omega) (aW (aO l i).bH d) ob _ (sd (tw @bg @j9)) (by(try dsimp only);omega)))
     obtain⟨g1,x1⟩:=σ1
     obtain⟨o1,rfl,q1,q2,q3,q4,q5⟩:=hq
     (try dsimp only at q1 q2 q3 q4 q5)
     refine hN _ _ ?_
     clear hN N
     (try((repeat(revert hN;revert N;apply Pn.out));refine wk (tw @b5 (tw @b0 @b4)) ?_;(repeat(refine Pn.mk ?_;intro N hN))))
     exact eY (sd (tw @b5 (tw @b0 (tw @b4 @ab.eq_1)))) (by exact⟨o1,sd @nV,sd (tw @q1 @nV),by(try dsimp only);omega,by
      rcases q4 with h|h
      ·omega
      ·have:o1=ob:=by simpa using h
       rw[this];exact K0,fun x hx=>by
      have h1:=ef (i:=x) (n:=st_b.next) (by omega)
      have h2:=ef (i:=x) (n:=st_b.next+1) (by omega)
      have h3:=eP x hx
      have h4:(x=ob)=False:=eq_false fun h=>by rw[h]at hx;omega
      have h5:=q5 x (by omega) h4
      simp only[go_sem, ↓reduceIte,Nat.reduceEqDiff,Nat.reduceAdd,Nat.reduceSub,Nat.reduceLeDiff,reduceCtorEq,h1,h2,h3,h5]⟩)
    ·have nV:eR l (eA l i) (aO l i).bH (d+1)=eR l (eA l i) (aO l i).bH d:=by
      simp only[eR,ja];rw[if_neg fun h=>hx h.2]
     (repeat(first|((repeat(revert hN;revert N;apply Pn.out));refine wk (tw @b5 (tw @b0 (tw @b4 (tw @b3 (tw @bg (tw @hd (tw @j3 (tw @j9 (tw @hx (tw @ai.eq_1 @ab.eq_1)))))))))) ?_;(repeat(refine Pn.mk ?_;intro N hN)))|((try apply Or.inl);refine⟨_,aq.x (dL) (sd (tw @b5 (tw @b0 (tw @b4 (tw @b3 (tw @bg (tw @hd (tw @j3 (tw @j9 (tw @hx (tw @ai.eq_1 @ab.eq_1))))))))))),?_⟩;refine hN _ _ ?_;clear hN N)|((try apply Or.inl);refine⟨_,aq.x (Pw) (sd (tw @b5 (tw @b0 (tw @b4 (tw @b3 (tw @bg (tw @hd (tw @j3 (tw @j9 (tw @hx (tw @ai.eq_1 @ab.eq_1))))))))))),?_⟩;refine hN _ _ ?_;clear hN N)|((try apply Or.inl);refine⟨_,aq.x (Bc) (sd (tw @b5 (tw @b0 (tw @b4 (tw @b3 (tw @bg (tw @hd (tw @j3 (tw @j9 (tw @hx (tw @ai.eq_1 @ab.eq_1))))))))))),?_⟩;refine hN _ _ ?_;clear hN N)))
     exact eY (sd (tw @b5 (tw @b0 (tw @b4 @ab.eq_1)))) (by exact⟨ob,sd (tw @b3 @nV),sd (tw @bg (tw @j9 @nV)),by(try dsimp only);omega,K0,fun x hx=>by
      have h1:=ef (i:=x) (n:=st_b.next) (by omega)
      have h2:=ef (i:=x) (n:=st_b.next+1) (by omega)
      have h3:=eP x hx
      simp only[go_sem, ↓reduceIte,Nat.reduceEqDiff,Nat.reduceAdd,Nat.reduceSub,Nat.reduceLeDiff,reduceCtorEq,h1,h2,h3]⟩)
  ·have O7:d=4:=by omega
   rw[O7]at b3 bg
   have hnu:eR l (eA l i) (aO l i).bH 4=eA l (i+1):=rfl
   rw[hnu]at b3 bg
   (try((repeat(revert hN;revert N;apply Pn.out));refine wk (tw @b5 (tw @b0 (tw @b4 (tw @b3 (tw @bg @hd))))) ?_;(repeat(refine Pn.mk ?_;intro N hN))))
   exact cE (sd (tw @b5 (tw @b0 (tw @b4 @ab.eq_1)))) (by exact⟨ob,sd @b3,sd @bg,by(try dsimp only);omega,K0,fun x hx=>sd (eP x hx)⟩)
 ·have mC:i=l.length:=by omega
  (try((repeat(revert hN;revert N;apply Pn.out));refine wk (tw @a4 (tw @a0 (tw @a3 (tw @ag @hi)))) ?_;(repeat(refine Pn.mk ?_;intro N hN))))
  exact gQ (.inl rfl) (vs:=[.own o 0 (eA l i).length]) (sd @a3) ⟨o,by rw[iJ,<-mC];rfl,by rw[iJ,<-mC];simp only[go_sem, ↓reduceIte,Nat.reduceEqDiff,Nat.reduceAdd,Nat.reduceSub,Nat.reduceLeDiff,reduceCtorEq,ag],by(try dsimp only);omega,by(try dsimp only);omega,.inl Qr,fun x hx _=>sd (dq x hx)⟩
structure Wr2 (g:Rows) (n:Nat) (A S C c T O:Id) (s:aG) (l:List ad):Prop where
 a:∃b,g A=some ⟨b,1,[[.sl (l.map ai)]]⟩
 sy:∃b,g S=some ⟨b,4,[aD s]⟩
 p:∃b,g C=some ⟨b,1,[[.ptr c 0 0]]⟩
 OE:y6 g n c T O s l
 av:A.bt<n
 sv:S.bt<n
 pv:C.bt<n
def GL (B:ah->Int->Bool) (p:ah):Nat->List ad
 |0=>[]
 |t+1=>if B p (t:Nat)=true then GL B p t++[⟨p,(t:Nat)⟩]else GL B p t
def qK (B:ah->Int->Bool) (m:Nat) (ps:List ah):List ad:=ps.flatMap fun p=>GL B p m
theorem Dr (B:ah->Int->Bool) (p:ah):∀t,(GL B p t).length<=t
 |0=>by simp[GL]
 |t+1=>by
  have:=Dr B p t
  rw[GL]
  split
  ·rw[List.length_append,List.length_singleton];omega
  ·omega
theorem sN (B:ah->Int->Bool) (m:Nat):∀ps:List ah,(qK B m ps).length<=ps.length*m
 |[]=>by simp[qK]
 |p::ps=>by
  have h:=sN B m ps
  have h2:=Dr B p m
  unfold qK at *
  rw[List.flatMap_cons,List.length_append,List.length_cons,Nat.add_mul,Nat.one_mul]
  omega
theorem zi {B:ah->Int->Bool} {m:Nat} {ps:List ah} {k:Nat} (hk:k<ps.length):qK B m (ps.take (k+1))=qK B m (ps.take k)++GL B (jh ps k) m:=by
 unfold qK
 rw[List.take_succ_eq_append_getElem hk,List.flatMap_append,jt hk]
 simp
end Go.Proofs.YtgoljkjaameagaaGreat.V

namespace Go.Proofs.YtgoljkjaameagaaGreat.V
open Go.RowKit
def yq:List ad->ad->List ad
 |[],q=>[q]
 |x::r,q=>if j5 q.bH x.bH=true then q::x::r else x::yq r q
theorem Ar {q x:ad}:∀{l:List ad},x∈yq l q↔x=q∨x∈l
 |[]=>by simp[yq]
 |y::r=>by
  have ih:=@Ar q x r
  rw[yq]
  split
  ·simp
  ·simp only[List.mem_cons,ih]
   constructor
   ·rintro(h|h|h)<;>simp[h]
   ·rintro(h|h|h)<;>simp[h]
theorem Ia (q:ad):∀l:List ad,(yq l q).length=l.length+1
 |[]=>rfl
 |y::r=>by
  have ih:=Ia q r
  rw[yq]
  split
  ·simp
  ·simp[ih]
theorem uI {l:List ad}:qS l↔l.Pairwise fun a b=>j5 a.bH b.bH=true:=by
 rw[List.pairwise_iff_getElem]
 constructor
 ·intro h i j hi hj Cg
  have:=h i j Cg hj
  rwa [gy hi,gy hj]at this
 ·intro h i j Cg hj
  have:=h i j (by omega) hj Cg
  rwa [gy (by omega),gy hj]
theorem J1 {l:List ad} {p:ah}:eC l p<0↔∀t∈l,t.bH≠p:=Ab
theorem P4 {q:ad}:∀{l:List ad},qS l->eC l q.bH<0->qS (yq l q):=by
 intro l
 rw[uI,uI,J1]
 induction l with
 |nil=>intro _ _;exact List.pairwise_singleton _ _
 |cons y r ih=>
  intro h hn
  obtain⟨h1,h2⟩:=List.pairwise_cons.1 h
  rw[yq]
  split
  ·rename_i hl
   refine List.pairwise_cons.2 ⟨fun x hx=>?_,h⟩
   rcases List.mem_cons.1 hx with rfl|hx
   ·exact hl
   ·exact gV hl (h1 x hx)
  ·rename_i hl
   rw[Bool.not_eq_true]at hl
   refine List.pairwise_cons.2 ⟨fun x hx=>?_,ih h2 fun t ht=>hn t (by simp[ht])⟩
   rcases Ar.1 hx with rfl|hx
   ·exact ye hl fun e=>hn y (by simp) e.symm
   ·exact h1 x hx
theorem nY {α:Type} [DecidableEq α]:∀{xs ys:List α},xs.Nodup->(∀x∈xs,x∈ys)->xs.length<=ys.length
 |[],_,_,_=>Nat.zero_le _
 |x::xs,ys,hn,h=>by
  obtain⟨h1,h2⟩:=List.nodup_cons.1 hn
  have hx:=h x (by simp)
  have:=@nY α _ xs (ys.erase x) h2 fun y hy=>(List.mem_erase_of_ne fun e=>h1 (by rw[<-e];exact hy)).2 (h y (by simp[hy]))
  rw[List.length_erase_of_mem hx]at this
  have:=List.length_pos_of_mem hx
  rw[List.length_cons];omega
theorem Oj {l:List ad} (h:qS l):l.Nodup:=by
 rw[uI]at h
 refine List.Pairwise.imp (fun {a b} mV e=>?_) h
 rw[e,lX]at mV;cases mV
abbrev Ly:=List ad×List ad
noncomputable def Rf (s:aG) (st:Ly) (x:ad):Ly:=if eu s st.2 x.bH x.bq=true then(st.1++[x],yq st.2 x)else st
structure InsI (s:aG) (l:List ad) (st:Ly):Prop where
 Oi:qS st.2
 sub:∀x∈st.2,x∈l
 done:∀x∈st.1,x∈l
 len:st.2.length=s.cr.ae.length+st.1.length
theorem OJ {s:aG} {l:List ad} (hA:jM s.az l) {now:List ad} (hs:∀x∈now,x∈l) {p:ah} {t:Int} (h:eu s now p t=true):eC now p<0:=by
 rcases Int.lt_or_le (eC now p) 0 with h0|h0
 ·exact h0
 ·exfalso
  obtain⟨h1,_⟩:=j4 h0
  have h2:=(dM (hA.2 _ (hs _ (gP h1)))).1
  simp[eu,gz,h0]at h
  omega
structure SysW (s:aG):Prop where
 set:gJ s.az
 Ky:jM s.az s.cr.ae
 some:1<=s.cr.ae.length
 IE:gn s.aw 1 16=true
def jQ (B:ah->Int->Bool) (p:ah):Nat->List Int
 |0=>[]
 |t+1=>if B p (t:Nat)=true then jQ B p t++[(t:Int)]else jQ B p t
theorem qa (B:ah->Int->Bool) (p:ah):∀t,(jQ B p t).length<=t
 |0=>by simp[jQ]
 |t+1=>by
  have:=qa B p t
  rw[jQ]
  split
  ·rw[List.length_append,List.length_singleton];omega
  ·omega
theorem Hg (B:ah->Int->Bool) (p:ah):∀t,∀k∈jQ B p t,0<=k/\k<(t:Int)
 |0,k,h=>by simp[jQ]at h
 |t+1,k,h=>by
  have ih:=Hg B p t
  rw[jQ]at h
  split at h
  ·rcases List.mem_append.1 h with h|h
   ·have:=ih k h;omega
   ·rw[List.mem_singleton.1 h];omega
  ·have:=ih k h;omega
theorem tr (B:ah->Int->Bool) (p:ah):∀t,GL B p t=(jQ B p t).map fun k=>(⟨p,k⟩:ad)
 |0=>rfl
 |t+1=>by
  rw[GL,jQ,tr B p t]
  split<;>simp
theorem DJ {B:ah->Int->Bool} {p:ah} (h:∀t:Nat,B p t=false):∀t,jQ B p t=[]
 |0=>rfl
 |t+1=>by rw[jQ,if_neg (by rw[h t];simp),DJ h t]
theorem zG {B:ah->Int->Bool} {p:ah}:∀{t:Nat},jQ B p t≠[]->∃k:Nat,k<t/\B p k=true
 |0,h=>absurd rfl h
 |t+1,h=>by
  rw[jQ]at h
  split at h
  ·rename_i hb;exact⟨t,Nat.lt_succ_self t,hb⟩
  ·obtain⟨k,hk,hb⟩:=zG h
   exact⟨k,Nat.lt_succ_of_lt hk,hb⟩
theorem wC {B C:ah->Int->Bool} {p:ah} (h:∀t:Nat,B p t=C p t):∀t,jQ B p t=jQ C p t
 |0=>rfl
 |t+1=>by rw[jQ,jQ,h t,wC h t]
abbrev En:=ah×AV
def nU (e:En):List AV:=[.int .i64 e.1.eI,.int .i64 e.1.eB,e.2]
def l6:List En->ah->AV->List En
 |[],q,v=>[(q,v)]
 |e::es,q,v=>if e.1=q then(q,v)::es else e::l6 es q v
def p4:List En->ah->List En
 |[],_=>[]
 |e::es,q=>if e.1=q then es else e::p4 es q
theorem uh {q:ah} {v:AV} {x:En}:∀{es:List En},x.1≠q->(x∈l6 es q v↔x∈es)
 |[],h=>by
  rw[l6,List.mem_singleton]
  exact⟨fun e=>absurd (by rw[e]) h,fun e=>by cases e⟩
 |e::es,h=>by
  have ih:=@uh q v x es h
  rw[l6]
  split
  ·rename_i he
   rw[List.mem_cons,List.mem_cons]
   exact⟨fun h1=>h1.elim (fun e=>absurd (by rw[e]) h) .inr,fun h1=>h1.elim (fun e'=>absurd (by rw[e'];exact he) h) .inr⟩
  ·rw[List.mem_cons,List.mem_cons,ih]
theorem xc (q:ah) (v:AV):∀es:List En,(q,v)∈l6 es q v
 |[]=>by simp[l6]
 |e::es=>by
  have ih:=xc q v es
  rw[l6]
  split
  ·simp
  ·exact List.mem_cons_of_mem _ ih
theorem Ah {q:ah} {v:AV} {p:ah}:∀{es:List En},p∈(l6 es q v).map (·.1)->p=q∨p∈es.map (·.1)
 |[],h=>by simp[l6]at h;exact .inl h
 |e::es,h=>by
  rw[l6]at h
  split at h
  ·simp only[List.map_cons,List.mem_cons]at h ⊢
   exact h.imp_right .inr
  ·simp only[List.map_cons,List.mem_cons]at h ⊢
   rcases h with h|h
   ·exact .inr (.inl h)
   ·exact(Ah h).imp_right .inr
theorem uy (q:ah) (v:AV):∀{es:List En},(es.map (·.1)).Nodup->((l6 es q v).map (·.1)).Nodup
 |[],_=>by simp[l6]
 |e::es,h=>by
  obtain⟨h1,h2⟩:=List.nodup_cons.1 (show(e.1::es.map (·.1)).Nodup from h)
  rw[l6]
  split
  ·rename_i he
   refine List.nodup_cons.2 ⟨?_,h2⟩
   show q∉_
   rw[<-he];exact h1
  ·rename_i he
   refine List.nodup_cons.2 ⟨fun hc=>?_,uy q v h2⟩
   rcases Ah hc with h3|h3
   ·exact he h3
   ·exact h1 h3
theorem Aq {q:ah} {x:En}:∀{es:List En},x.1≠q->(x∈p4 es q↔x∈es)
 |[],_=>Iff.rfl
 |e::es,h=>by
  have ih:=@Aq q x es h
  rw[p4]
  split
  ·rename_i he
   rw[List.mem_cons]
   exact⟨.inr,fun h1=>h1.elim (fun e'=>absurd (by rw[e'];exact he) h) id⟩
  ·rw[List.mem_cons,List.mem_cons,ih]
theorem tH {q:ah}:∀{es:List En},(p4 es q).Sublist es
 |[]=>List.Sublist.slnil
 |e::es=>by
  rw[p4]
  split
  ·exact List.sublist_cons_self _ _
  ·exact(tH (es:=es)).cons_cons _
theorem BG (q:ah) {es:List En} (h:(es.map (·.1)).Nodup):((p4 es q).map (·.1)).Nodup:=((tH (q:=q) (es:=es)).map _).nodup h
theorem Dw {q:ah}:∀{es:List En},(es.map (·.1)).Nodup->∀e∈p4 es q,e.1≠q
 |[],_,e,h=>by cases h
 |x::es,hn,e,h=>by
  obtain⟨h1,h2⟩:=List.nodup_cons.1 (show(x.1::es.map (·.1)).Nodup from hn)
  rw[p4]at h
  split at h
  ·rename_i hx
   intro he
   exact h1 (by rw[hx,<-he];exact List.mem_map_of_mem h)
  ·rename_i hx
   rcases List.mem_cons.1 h with rfl|h
   ·exact hx
   ·exact Dw h2 e h
theorem J6 {es:List En} (hn:(es.map (·.1)).Nodup) {q:ah} {u v:AV} (h1:(q,u)∈es) (h2:(q,v)∈es):u=v:=by
 induction es with
 |nil=>cases h1
 |cons e es ih=>
  obtain⟨n1,n2⟩:=List.nodup_cons.1 (show(e.1::es.map (·.1)).Nodup from hn)
  rcases List.mem_cons.1 h1 with a|a<;>rcases List.mem_cons.1 h2 with b|b
  ·rw[<-a]at b;injection b with _ b;exact b.symm
  ·exact absurd (by rw[<-a];exact List.mem_map_of_mem (f:=(·.1)) b) n1
  ·exact absurd (by rw[<-b];exact List.mem_map_of_mem (f:=(·.1)) a) n1
  ·exact ih n2 a b
structure vg (g:Rows) (n:Nat) (es:List En) (fs:ah->List Int) (A:ah->Prop):Prop where
 nodup:(es.map (·.1)).Nodup
 at_:∀q,A q->(fs q=[]/\∀e∈es,e.1≠q)∨(fs q≠[]/\∃o:Id,(q,AV.own o 0 (fs q).length)∈es/\o.bt<n/\g o=some ⟨true,1,(fs q).map aA⟩)
theorem vg.mono {g:Rows} {n:Nat} {es:List En} {fs:ah->List Int} {A A':ah->Prop} (h:vg g n es fs A) (hA:∀q,A' q->A q):vg g n es fs A':=⟨h.nodup,fun q hq=>h.at_ q (hA q hq)⟩
theorem vg.frame {g g':Rows} {n n':Nat} {es:List En} {fs:ah->List Int} {A:ah->Prop} (h:vg g n es fs A) (hn:n<=n') (hf:∀x:Id,x.bt<n->(∃k r,g x=some ⟨k,1,r⟩)->g' x=g x):vg g' n' es fs A:=⟨h.nodup,fun q hq=>by
 rcases h.at_ q hq with h1|⟨h1,o,h2,h3,h4⟩
 ·exact .inl h1
 ·exact .inr ⟨h1,o,h2,by omega,(hf o h3 ⟨_,_,h4⟩).trans h4⟩⟩
theorem vg.put {g:Rows} {n:Nat} {es:List En} {fs:ah->List Int} {A:ah->Prop} (h:vg g n es fs A) {q:ah} {o:Id} (h0:fs q≠[]) (ho:o.bt<n) (hg:g o=some ⟨true,1,(fs q).map aA⟩):vg g n (l6 es q (.own o 0 (fs q).length)) fs (fun p=>A p∨p=q):=⟨uy _ _ h.nodup,fun p hp=>by
 by_cases e:p=q
 ·subst e
  exact .inr ⟨h0,o,xc _ _ _,ho,hg⟩
 ·rcases hp with hp|hp
  ·rcases h.at_ p hp with⟨h1,h2⟩|⟨h1,o',h2,h3⟩
   ·refine .inl ⟨h1,fun x hx hxp=>?_⟩
    have hxq:x.1≠q:=fun e'=>e (hxp.symm.trans e')
    exact h2 x ((uh hxq).1 hx) hxp
   ·exact .inr ⟨h1,o',(uh e).2 h2,h3⟩
  ·exact absurd hp e⟩
theorem vg.cut {g:Rows} {n:Nat} {es:List En} {fs:ah->List Int} {A:ah->Prop} (h:vg g n es fs A) {q:ah} (h0:fs q=[]):vg g n (p4 es q) fs (fun p=>A p∨p=q):=⟨BG _ h.nodup,fun p hp=>by
 by_cases e:p=q
 ·subst e
  exact .inl ⟨h0,Dw h.nodup⟩
 ·rcases hp with hp|hp
  ·rcases h.at_ p hp with⟨h1,h2⟩|⟨h1,o',h2,h3⟩
   ·exact .inl ⟨h1,fun x hx=>h2 x (tH.subset hx)⟩
   ·exact .inr ⟨h1,o',(Aq e).2 h2,h3⟩
  ·exact absurd hp e⟩
theorem Au (p:ah):∀(es:List En) (i:Nat),∃fi,fI ⟨true,[.tI,.tI]⟩ (ab p) (es.map nU) i=some fi/\
  (∀v,(match fi with|some j=>(es.map nU).set (j-i) [.int .i64 p.eI,.int .i64 p.eB,v]|none=>es.map nU++[[.int .i64 p.eI,.int .i64 p.eB,v]])=(l6 es p v).map nU)/\
  ((match fi with|some j=>(es.map nU).eraseIdx (j-i)|none=>es.map nU)=(p4 es p).map nU)/\
  (∀j,fi=some j->i<=j/\j-i<es.length/\∃v,es[j-i]? =some (p,v))/\(fi=none->∀e∈es,e.1≠p)
 |[],i=>⟨none,by simp[fI],fun v=>rfl,rfl,fun _ h=>(by cases h),fun _ _ he=>(by cases he)⟩
 |e::es,i=>by
  have hq:eL [TS.tI,TS.tI] (ab p) ((nU e).take 2)=some (decide (p=e.1)):=by
   have h:(p=e.1)↔(p.eI=e.1.eI/\p.eB=e.1.eB):=⟨fun h=>by rw[h];exact⟨rfl,rfl⟩,fun h=>uv h.1 h.2⟩
   simp[ab,nU,eL,fF,h]
  by_cases h:p=e.1
  ·refine⟨some i,?_,fun v=>?_,?_,fun j hj=>?_,fun hc=>by cases hc⟩
   ·rw[List.map_cons]
    unfold fI
    rw[show(⟨true,[.tI,.tI]⟩:MK).ts=[.tI,.tI]from rfl,show(⟨true,[.tI,.tI]⟩:MK).ks=2 from rfl,hq,decide_eq_true h]
   ·simp[l6,h,nU]
   ·simp[p4,h]
   ·cases hj
    exact⟨Nat.le_refl _,by simp,e.2,by simp[h]⟩
  ·obtain⟨fi,h1,h2,h3,h4,h5⟩:=Au p es (i+1)
   have he:¬e.1=p:=fun hc=>h hc.symm
   refine⟨fi,?_,fun v=>?_,?_,fun j hj=>?_,fun hc x hx=>?_⟩
   ·rw[List.map_cons]
    unfold fI
    rw[show(⟨true,[.tI,.tI]⟩:MK).ts=[.tI,.tI]from rfl,show(⟨true,[.tI,.tI]⟩:MK).ks=2 from rfl,hq,decide_eq_false h]
    exact h1
   ·have Qw:=h2 v
    rw[l6,if_neg he]
    cases fi with
    |none=>
     simp only[List.map_cons,List.cons_append]at Qw ⊢
     rw[Qw]
    |some j=>
     obtain⟨h6,_⟩:=h4 j rfl
     obtain⟨k,hk⟩:∃k,j=i+1+k:=⟨j-(i+1),by omega⟩
     subst hk
     simp only[show i+1+k-i=k+1 by omega,show i+1+k-(i+1)=k by omega,List.map_cons,List.set_cons_succ]at Qw ⊢
     rw[Qw]
   ·rw[p4,if_neg he]
    cases fi with
    |none=>
     simp only[List.map_cons]at h3 ⊢
     rw[h3]
    |some j=>
     obtain⟨h6,_⟩:=h4 j rfl
     obtain⟨k,hk⟩:∃k,j=i+1+k:=⟨j-(i+1),by omega⟩
     subst hk
     simp only[show i+1+k-i=k+1 by omega,show i+1+k-(i+1)=k by omega,List.map_cons,List.eraseIdx_cons_succ]at h3 ⊢
     rw[h3]
   ·obtain⟨h6,h7,v,h8⟩:=h4 j hj
    refine⟨by omega,by simp only[List.length_cons];omega,v,?_⟩
    rw[show j-i=(j-(i+1))+1 by omega,List.getElem?_cons_succ];exact h8
   ·rcases List.mem_cons.1 hx with rfl|hx
    ·exact he
    ·exact h5 hc x hx
theorem wZ (p:ah) (es:List En):∃fi,fC ⟨true,[.tI,.tI]⟩ (.agg [.int .i64 p.eI,.int .i64 p.eB]) (es.map nU)=some fi/\(∀v,dz (es.map nU) [.int .i64 p.eI,.int .i64 p.eB,v] fi=(l6 es p v).map nU)/\dF (es.map nU) fi=(p4 es p).map nU/\
  (∀j,fi=some j->∃v,es[j]? =some (p,v))/\(fi=none->∀e∈es,e.1≠p):=by
 obtain⟨fi,h1,h2,h3,h4,h5⟩:=Au p es 0
 refine⟨fi,?_,fun v=>?_,?_,fun j hj=>?_,h5⟩
 ·unfold fC
  rw[if_pos ⟨rfl,rfl,rfl⟩]
  exact h1
 ·rw[<-h2 v];cases fi<;>rfl
 ·rw[<-h3];cases fi<;>rfl
 ·obtain⟨_,_,v,h6⟩:=h4 j hj
  exact⟨v,by simpa using h6⟩
theorem xg (p:ah) (k:Nat) (hk:k<4):aW (aW p k) (j6 k)=p:=by
 have:k=0∨k=1∨k=2∨k=3:=by omega
 rcases this with rfl|rfl|rfl|rfl<;>(cases p;simp[aW,j6,gn];try omega)
theorem bind_some {s:au} {F:ah->Int} {p:ah} {t:Int}:∀d:Nat,0<di s F p t d->∃k:Nat,k<d/\0<=F (aW p k)
 |0,h=>by simp[di]at h
 |d+1,h=>by
  by_cases h0:0<=F (aW p d)
  ·exact⟨d,Nat.lt_succ_self d,h0⟩
  ·rw[di,if_neg h0,Int.add_zero]at h
   obtain⟨k,hk,h1⟩:=bind_some d h
   exact⟨k,Nat.lt_succ_of_lt hk,h1⟩
theorem Ha {s:aG} (hT:1<=s.aw) {l:List ad} (hA:jM s.az l) {p:ah} {t:Int} (h:eu s l p t=true):y9 l p:=by
 simp[eu]at h
 obtain⟨⟨h1,h2⟩,h3⟩:=h
 obtain⟨k,hk,h4⟩:=bind_some (s:=s.az) (F:=gz l) (p:=p) (t:=t) 4 (by have:oJ s.az (gz l) p t=di s.az (gz l) p t 4:=rfl;omega)
 have h5:0<=eC l (aW p k):=by
  unfold gz at h4
  split at h4
  ·assumption
  ·omega
 obtain⟨h6,h7⟩:=j4 h5
 refine⟨h1,(GI hA p).1 h2,(eC l (aW p k)).toNat,(j6 k).toNat,h6,?_,?_⟩
 ·have:k=0∨k=1∨k=2∨k=3:=by omega
  rcases this with rfl|rfl|rfl|rfl<;>decide
 ·rw[h7]
  have:((j6 k).toNat:Int)=j6 k:=by
   have:k=0∨k=1∨k=2∨k=3:=by omega
   rcases this with rfl|rfl|rfl|rfl<;>decide
  rw[this,xg p k hk]
noncomputable def k9 (s:aG) (l:List ad):List ah:=(iJ l).filter fun p=>decide (jQ (eu s l) p s.az.ae.length≠[])
theorem ue {s:aG} (hT:1<=s.aw) {l:List ad} (hA:jM s.az l) (p:ah):p∈k9 s l↔jQ (eu s l) p s.az.ae.length≠[]:=by
 unfold k9
 rw[List.mem_filter,wY,decide_eq_true_eq]
 refine⟨fun h=>h.2,fun h=>⟨?_,h⟩⟩
 obtain⟨k,_,hk⟩:=zG h
 exact Ha hT hA hk
theorem BS (s:aG) (l:List ad):lO (k9 s l):=List.Pairwise.sublist List.filter_sublist (pD l _)
theorem BA (s:aG) (l:List ad):qK (eu s l) s.az.ae.length (iJ l)=qK (eu s l) s.az.ae.length (k9 s l):=by
 unfold k9
 generalize iJ l=ps
 induction ps with
 |nil=>rfl
 |cons p ps ih=>
  unfold qK at *
  rw[List.flatMap_cons,List.filter_cons,ih]
  split
  ·rw[List.flatMap_cons]
  ·rename_i h
   simp only[decide_eq_true_eq,ne_eq,Classical.not_not]at h
   rw[tr,h];rfl
end Go.Proofs.YtgoljkjaameagaaGreat.V

namespace Go.Proofs.YtgoljkjaameagaaGreat.V
open Go.RowKit
attribute [local irreducible] ej wpOps fQ Call
attribute [local go_sem] aH fq eD fH fG cV upd bZ K.av cC AV.cells AV.cell rowOf rowsOf part ld rowAt bK bR du dQ gE bB cR eb fF eL dh dV cP cN dD dE bF aT cG bE cI cH dS dW dU cF bJ cQ dR bD aJ cK cm gD bd cz bG aP dn aX dv AV.undef bj bx dG dO dz dF cu ea ei ck dY dX cJ cL List.getD_cons_zero List.getD_cons_succ List.getD_nil List.all_cons List.all_nil Bool.and_true Bool.true_and Bool.and_self Bool.not_true Bool.not_false Option.map_some Option.map_none Option.bind_some Option.bind_none List.length_cons List.length_nil List.take_succ_cons List.take_zero List.take_nil List.drop_succ_cons List.drop_zero List.drop_nil List.head?_cons List.map_cons List.map_nil List.getElem?_cons_zero List.getElem?_cons_succ List.cons_append List.nil_append List.append_nil List.length_map List.set_cons_zero List.set_cons_succ Nat.reduceMul eq_self Int.toNat_natCast Int.natCast_nonneg and_self true_and and_true decide_true decide_false Bool.false_eq_true Nat.zero_add Nat.add_zero List.contains_cons List.contains_nil Bool.or_false Bool.false_or beq_self_eq_true Nat.reduceBEq ne_eq not_true_eq_false not_false_eq_true Id.mk.injEq false_and and_false Nat.reduceLT Int.reduceLE Int.reduceLT Int.reduceToNat Int.reduceNeg Int.reduceAdd Nat.le_refl List.length_append beq_true beq_false Bool.not_eq_eq_eq_not or_false false_or eo aj ar aK aV bp bW aQ aZ aN aU cD bI
theorem Ks (x:gI) (g:Rows):dj g 5 (cw x)=some (cw x):=by simp[cw,aj,ar,bp,aK]
theorem Kt (x:e8) (g:Rows):dj g 5 (bh x)=some (bh x):=by simp[bh,aj,ar,bp,bW]
theorem FI (x:ad) (g:Rows):dj g 5 (ai x)=some (ai x):=by simp[ai,aj,ar,aK]
theorem F2 (p:ah):lJ Tryz.prog 109 [.agg (ab p)] (.agg (ab p)):=by
 refine lJ.body eE rfl fun hl σ=>?_
 clear hl
 (try((repeat(revert hN;revert N;apply Pn.out));refine wk @ab.eq_1 ?_;(repeat(refine Pn.mk ?_;intro N hN))))
 exact CP (.inl rfl) (vs:=[.agg (ab p)]) (by simp only[go_sem, ↓reduceIte,Nat.reduceEqDiff,Nat.reduceAdd,Nat.reduceSub,Nat.reduceLeDiff,reduceCtorEq,e6,gS,ab]) (by simp[eH,ab,aZ,aj,ar,aK])
theorem C9 (p:ad):lJ Tryz.prog 149 [.agg (ai p)] (.agg (ai p)):=by
 refine lJ.body eE rfl fun hl σ=>?_
 clear hl
 have h:=F2 p.bH
 rw[ab]at h
 (repeat(first|((repeat(revert hN;revert N;apply Pn.out));refine wk @ai.eq_1 ?_;(repeat(refine Pn.mk ?_;intro N hN)))|((try apply Or.inl);refine⟨_,lJ.x (h) _,?_⟩;refine hN _ _ ?_;clear hN N)))
 exact CP (.inl rfl) (vs:=[.agg (ai p)]) (by simp only[go_sem, ↓reduceIte,Nat.reduceEqDiff,Nat.reduceAdd,Nat.reduceSub,Nat.reduceLeDiff,reduceCtorEq,e6,gS,ai]) (by simp[eH,ai,aZ,aj,ar,aK])
theorem IF (p:gI):lJ Tryz.prog 197 [.agg (cw p)] (.agg (cw p)):=by
 refine lJ.body eE rfl fun hl σ=>?_
 clear hl
 (try((repeat(revert hN;revert N;apply Pn.out));refine wk @cw.eq_1 ?_;(repeat(refine Pn.mk ?_;intro N hN))))
 exact CP (.inl rfl) (vs:=[.agg (cw p)]) (by simp only[go_sem, ↓reduceIte,Nat.reduceEqDiff,Nat.reduceAdd,Nat.reduceSub,Nat.reduceLeDiff,reduceCtorEq,e6,gS,cw]) (by simp[eH,cw,aZ,aj,ar,aK,bp])
theorem AR (xs:List Int) (h:xs.length<=1048576):lJ Tryz.prog 17 [.sl (xs.map aA)] (.sl (xs.map aA)):=
 P9 (show mU Tryz.prog 17=some (Lu 17 (.int .i64 0)) by kernel_rfl) xs h
def xn (t:e8):Prop:=t.bY.length<=1048576
theorem IG (p:e8) (hs:xn p):lJ Tryz.prog 198 [.agg (bh p)] (.agg (bh p)):=by
 refine lJ.body eE rfl fun hl σ=>?_
 clear hl
 have h:=AR p.bY hs
 (repeat(first|((repeat(revert hN;revert N;apply Pn.out));refine wk @bh.eq_1 ?_;(repeat(refine Pn.mk ?_;intro N hN)))|((try apply Or.inl);refine⟨_,lJ.x (h) _,?_⟩;refine hN _ _ ?_;clear hN N)))
 exact CP (.inl rfl) (vs:=[.agg (bh p)]) (by simp only[go_sem, ↓reduceIte,Nat.reduceEqDiff,Nat.reduceAdd,Nat.reduceSub,Nat.reduceLeDiff,reduceCtorEq,e6,gS,bh]) (by simp[eH,bh,aZ,aj,ar,bW,bp])
theorem zz (xs ys:List Int):aq Tryz.prog 20 [.sl (xs.map aA),.sl (ys.map aA)] (.bool (decide (xs=ys))):=
 OH (show mU Tryz.prog 20=some (K2 20 .tI) by kernel_rfl) xs ys
theorem G6 (a b:e8):aq Tryz.prog 212 [.agg (bh a),.agg (bh b)] (.bool (decide (a=b))):=by
 refine aq.body eE rfl fun hl n0=>?_
 clear hl
 have h:=zz a.bY b.bY
 by_cases h1:a.aE=b.aE
 ·have e1:decide (a.aE=b.aE)=true:=decide_eq_true h1
  by_cases h2:a.bY=b.bY
  ·rw[decide_eq_true h2]at h
   (repeat(first|((repeat(revert hN;revert N;apply Pn.out));refine wk (tw @bh.eq_1 @e1) ?_;(repeat(refine Pn.mk ?_;intro N hN)))|((try apply Or.inl);refine⟨_,aq.x (h) (sd (tw @bh.eq_1 @e1)),?_⟩;refine hN _ _ ?_;clear hN N)))
   exact aL (b:=true) (.inl rfl) (sd @Nat.zero_add) (decide_eq_true (by cases a;cases b;simp_all)).symm
  ·rw[decide_eq_false h2]at h
   (repeat(first|((repeat(revert hN;revert N;apply Pn.out));refine wk (tw @bh.eq_1 @e1) ?_;(repeat(refine Pn.mk ?_;intro N hN)))|((try apply Or.inl);refine⟨_,aq.x (h) (sd (tw @bh.eq_1 @e1)),?_⟩;refine hN _ _ ?_;clear hN N)))
   exact aL (b:=false) (.inl rfl) (sd @Nat.zero_add) (decide_eq_false (by rintro rfl;exact h2 rfl)).symm
 ·have e1:decide (a.aE=b.aE)=false:=decide_eq_false h1
  (try((repeat(revert hN;revert N;apply Pn.out));refine wk (tw @bh.eq_1 @e1) ?_;(repeat(refine Pn.mk ?_;intro N hN))))
  exact aL (b:=false) (.inl rfl) (sd @Nat.zero_add) (decide_eq_false (by rintro rfl;exact h1 rfl)).symm
theorem F1 (xs:List gI) (h:xs.length<=1048576):lJ Tryz.prog 129 [.sl (xs.map cw)] (.sl (xs.map cw)):=
 Da (show mU Tryz.prog 129=some (Ei 129 197 2 [.str [],.int .i64 0]) by kernel_rfl) rfl (fun _=>rfl) (fun _=>rfl) Ks xs h fun x _=>IF x
theorem F3 (xs:List e8) (h:xs.length<=1048576) (hs:∀t∈xs,xn t):lJ Tryz.prog 130 [.sl (xs.map bh)] (.sl (xs.map bh)):=
 Da (show mU Tryz.prog 130=some (Ei 130 198 2 [.str [],.cq]) by kernel_rfl) rfl (fun _=>rfl) (fun _=>rfl) Kt xs h fun x hx=>IG x (hs x hx)
theorem AS (xs:List ad) (h:xs.length<=1048576):lJ Tryz.prog 80 [.sl (xs.map ai)] (.sl (xs.map ai)):=
 Da (show mU Tryz.prog 80=some (Ei 80 149 3 [.int .i64 0,.int .i64 0,.int .i64 0]) by kernel_rfl) rfl (fun _=>rfl) (fun _=>rfl) FI xs h fun x _=>C9 x
structure KW (s:au):Prop where
 g:s.aC.length<=1048576
 t:s.ae.length<=1048576
 s:∀t∈s.ae,xn t
structure rS (y:aG):Prop where
 s:KW y.az
 a:y.cr.ae.length<=1048576
theorem AU (p:au) (hs:KW p):lJ Tryz.prog 63 [.agg (aa p)] (.agg (aa p)):=by
 refine lJ.body eE rfl fun hl σ=>?_
 clear hl
 have h1:=F1 p.aC hs.g
 have h2:=F3 p.ae hs.t hs.s
 (repeat(first|((repeat(revert hN;revert N;apply Pn.out));refine wk @aa.eq_1 ?_;(repeat(refine Pn.mk ?_;intro N hN)))|((try apply Or.inl);refine⟨_,lJ.x (h1) _,?_⟩;refine hN _ _ ?_;clear hN N)|((try apply Or.inl);refine⟨_,lJ.x (h2) _,?_⟩;refine hN _ _ ?_;clear hN N)))
 exact CP (.inl rfl) (vs:=[.agg (aa p)]) (by simp only[go_sem, ↓reduceIte,Nat.reduceEqDiff,Nat.reduceAdd,Nat.reduceSub,Nat.reduceLeDiff,reduceCtorEq,e6,gS,aa]) (by simp[eH,aa,aZ,aj,ar,bW])
theorem qG (p:e7) (hs:p.ae.length<=1048576):lJ Tryz.prog 18 [.agg (bc p)] (.agg (bc p)):=by
 refine lJ.body eE rfl fun hl σ=>?_
 clear hl
 have h1:=AS p.ae hs
 (repeat(first|((repeat(revert hN;revert N;apply Pn.out));refine wk @bc.eq_1 ?_;(repeat(refine Pn.mk ?_;intro N hN)))|((try apply Or.inl);refine⟨_,lJ.x (h1) _,?_⟩;refine hN _ _ ?_;clear hN N)))
 exact CP (.inl rfl) (vs:=[.agg (bc p)]) (by simp only[go_sem, ↓reduceIte,Nat.reduceEqDiff,Nat.reduceAdd,Nat.reduceSub,Nat.reduceLeDiff,reduceCtorEq,e6,gS,bc]) (by simp[eH,bc,aZ,aj,ar,bW])
theorem Db (p:aG) (hs:rS p):lJ Tryz.prog 16 [.agg (aD p)] (.agg (aD p)):=by
 refine lJ.body eE rfl fun hl σ=>?_
 clear hl
 have h1:=AU p.az hs.s
 have h2:=qG p.cr hs.a
 rw[aa]at h1
 rw[bc]at h2
 (repeat(first|((repeat(revert hN;revert N;apply Pn.out));refine wk @aD.eq_1 ?_;(repeat(refine Pn.mk ?_;intro N hN)))|((try apply Or.inl);refine⟨_,lJ.x (h1) _,?_⟩;refine hN _ _ ?_;clear hN N)|((try apply Or.inl);refine⟨_,lJ.x (h2) _,?_⟩;refine hN _ _ ?_;clear hN N)))
 exact CP (.inl rfl) (vs:=[.agg (aD p)]) (by simp only[go_sem, ↓reduceIte,Nat.reduceEqDiff,Nat.reduceAdd,Nat.reduceSub,Nat.reduceLeDiff,reduceCtorEq,e6,gS,aD]) (by simp[eH,aD,aZ,aj,ar,bW,aK])
theorem G5 (a b:gI):aq Tryz.prog 211 [.agg (cw a),.agg (cw b)] (.bool (decide (a=b))):=by
 refine aq.body eE rfl fun hl n0=>?_
 clear hl
 by_cases h1:a.aE=b.aE
 ·have e1:decide (a.aE=b.aE)=true:=decide_eq_true h1
  by_cases h2:a.ez=b.ez
  ·have e2:decide (a.ez=b.ez)=true:=decide_eq_true h2
   (try((repeat(revert hN;revert N;apply Pn.out));refine wk (tw @cw.eq_1 (tw @e1 @e2)) ?_;(repeat(refine Pn.mk ?_;intro N hN))))
   exact aL (b:=true) (.inl rfl) (sd @Nat.zero_add) (decide_eq_true (by cases a;cases b;simp_all)).symm
  ·have e2:decide (a.ez=b.ez)=false:=decide_eq_false h2
   (try((repeat(revert hN;revert N;apply Pn.out));refine wk (tw @cw.eq_1 (tw @e1 @e2)) ?_;(repeat(refine Pn.mk ?_;intro N hN))))
   exact aL (b:=false) (.inl rfl) (sd @Nat.zero_add) (decide_eq_false (by rintro rfl;exact h2 rfl)).symm
 ·have e1:decide (a.aE=b.aE)=false:=decide_eq_false h1
  (try((repeat(revert hN;revert N;apply Pn.out));refine wk (tw @cw.eq_1 @e1) ?_;(repeat(refine Pn.mk ?_;intro N hN))))
  exact aL (b:=false) (.inl rfl) (sd @Nat.zero_add) (decide_eq_false (by rintro rfl;exact h1 rfl)).symm
theorem ET (a b:ah):aq Tryz.prog 112 [.agg (ab a),.agg (ab b)] (.bool (decide (a=b))):=by
 refine aq.body eE rfl fun hl n0=>?_
 clear hl
 by_cases h1:a.eI=b.eI
 ·have e1:decide (a.eI=b.eI)=true:=decide_eq_true h1
  by_cases h2:a.eB=b.eB
  ·have e2:decide (a.eB=b.eB)=true:=decide_eq_true h2
   (try((repeat(revert hN;revert N;apply Pn.out));refine wk (tw @ab.eq_1 (tw @e1 @e2)) ?_;(repeat(refine Pn.mk ?_;intro N hN))))
   exact aL (b:=true) (.inl rfl) (sd @Nat.zero_add) (decide_eq_true (by cases a;cases b;simp_all)).symm
  ·have e2:decide (a.eB=b.eB)=false:=decide_eq_false h2
   (try((repeat(revert hN;revert N;apply Pn.out));refine wk (tw @ab.eq_1 (tw @e1 @e2)) ?_;(repeat(refine Pn.mk ?_;intro N hN))))
   exact aL (b:=false) (.inl rfl) (sd @Nat.zero_add) (decide_eq_false (by rintro rfl;exact h2 rfl)).symm
 ·have e1:decide (a.eI=b.eI)=false:=decide_eq_false h1
  (try((repeat(revert hN;revert N;apply Pn.out));refine wk (tw @ab.eq_1 @e1) ?_;(repeat(refine Pn.mk ?_;intro N hN))))
  exact aL (b:=false) (.inl rfl) (sd @Nat.zero_add) (decide_eq_false (by rintro rfl;exact h1 rfl)).symm
theorem BJ (a b:ad):aq Tryz.prog 119 [.agg (ai a),.agg (ai b)] (.bool (decide (a=b))):=by
 refine aq.body eE rfl fun hl n0=>?_
 clear hl
 have h:=ET a.bH b.bH
 rw[ab,ab]at h
 by_cases h1:a.bH=b.bH
 ·rw[decide_eq_true h1]at h
  by_cases h2:a.bq=b.bq
  ·have e2:decide (a.bq=b.bq)=true:=decide_eq_true h2
   (repeat(first|((repeat(revert hN;revert N;apply Pn.out));refine wk (tw @ai.eq_1 @e2) ?_;(repeat(refine Pn.mk ?_;intro N hN)))|((try apply Or.inl);refine⟨_,aq.x (h) (sd (tw @ai.eq_1 @e2)),?_⟩;refine hN _ _ ?_;clear hN N)))
   exact aL (b:=true) (.inl rfl) (sd @Nat.zero_add) (decide_eq_true (by cases a;cases b;simp_all)).symm
  ·have e2:decide (a.bq=b.bq)=false:=decide_eq_false h2
   (repeat(first|((repeat(revert hN;revert N;apply Pn.out));refine wk (tw @ai.eq_1 @e2) ?_;(repeat(refine Pn.mk ?_;intro N hN)))|((try apply Or.inl);refine⟨_,aq.x (h) (sd (tw @ai.eq_1 @e2)),?_⟩;refine hN _ _ ?_;clear hN N)))
   exact aL (b:=false) (.inl rfl) (sd @Nat.zero_add) (decide_eq_false (by rintro rfl;exact h2 rfl)).symm
 ·rw[decide_eq_false h1]at h
  (repeat(first|((repeat(revert hN;revert N;apply Pn.out));refine wk @ai.eq_1 ?_;(repeat(refine Pn.mk ?_;intro N hN)))|((try apply Or.inl);refine⟨_,aq.x (h) (sd @ai.eq_1),?_⟩;refine hN _ _ ?_;clear hN N)))
  exact aL (b:=false) (.inl rfl) (sd @Nat.zero_add) (decide_eq_false (by rintro rfl;exact h1 rfl)).symm
theorem ES (xs ys:List gI):aq Tryz.prog 136 [.sl (xs.map cw),.sl (ys.map cw)] (.bool (decide (xs=ys))):=
 BL (show mU Tryz.prog 136=some (DF 136 211 2) by kernel_rfl) (fun _=>rfl) zH xs ys G5
theorem EU (xs ys:List e8):aq Tryz.prog 137 [.sl (xs.map bh),.sl (ys.map bh)] (.bool (decide (xs=ys))):=
 BL (show mU Tryz.prog 137=some (DF 137 212 2) by kernel_rfl) (fun _=>rfl) zI xs ys G6
theorem rX (xs ys:List ad):aq Tryz.prog 58 [.sl (xs.map ai),.sl (ys.map ai)] (.bool (decide (xs=ys))):=
 BL (show mU Tryz.prog 58=some (DF 58 119 3) by kernel_rfl) (fun _=>rfl) BW xs ys BJ
theorem BM (a:aG):aq Tryz.prog 21 [.agg (aD a),.agg (aD a)] (.bool true):=by
 have q1:aq Tryz.prog 66 [.agg (aa a.az),.agg (aa a.az)] (.bool true):=by
  refine aq.body eE rfl fun hl n0=>?_
  clear hl
  have h1:=ES a.az.aC a.az.aC
  have h2:=EU a.az.ae a.az.ae
  rw[decide_eq_true rfl]at h1 h2
  (repeat(first|((repeat(revert hN;revert N;apply Pn.out));refine wk @aa.eq_1 ?_;(repeat(refine Pn.mk ?_;intro N hN)))|((try apply Or.inl);refine⟨_,aq.x (h1) (sd @aa.eq_1),?_⟩;refine hN _ _ ?_;clear hN N)|((try apply Or.inl);refine⟨_,aq.x (h2) (sd @aa.eq_1),?_⟩;refine hN _ _ ?_;clear hN N)))
  exact aL (b:=true) (.inl rfl) (sd @Nat.zero_add) rfl
 have q2:aq Tryz.prog 22 [.agg (bc a.cr),.agg (bc a.cr)] (.bool true):=by
  refine aq.body eE rfl fun hl n0=>?_
  clear hl
  have h1:=rX a.cr.ae a.cr.ae
  rw[decide_eq_true rfl]at h1
  (repeat(first|((repeat(revert hN;revert N;apply Pn.out));refine wk @bc.eq_1 ?_;(repeat(refine Pn.mk ?_;intro N hN)))|((try apply Or.inl);refine⟨_,aq.x (h1) (sd @bc.eq_1),?_⟩;refine hN _ _ ?_;clear hN N)))
  exact aL (b:=true) (.inl rfl) (sd @Nat.zero_add) rfl
 rw[aa]at q1
 rw[bc]at q2
 refine aq.body eE rfl fun hl n0=>?_
 clear hl
 have e:decide (a.aw=a.aw)=true:=decide_eq_true rfl
 (repeat(first|((repeat(revert hN;revert N;apply Pn.out));refine wk (tw @aD.eq_1 @e) ?_;(repeat(refine Pn.mk ?_;intro N hN)))|((try apply Or.inl);refine⟨_,aq.x (q1) (sd (tw @aD.eq_1 @e)),?_⟩;refine hN _ _ ?_;clear hN N)|((try apply Or.inl);refine⟨_,aq.x (q2) (sd (tw @aD.eq_1 @e)),?_⟩;refine hN _ _ ?_;clear hN N)))
 exact aL (b:=true) (.inl rfl) (sd @Nat.zero_add) rfl
variable {P:Program}
def Dl {α:Type} (R:IW α) (z:Nat) (g:Rows) (a:AV) (xs:List α) (ids:List Id):Prop:=∃o rows is,a=.own o 0 xs.length/\g o=some ⟨true,z,rows⟩/\eM R g rows xs is/\ids=o::is
def vY {α:Type} (e:α->List AV):IW α:=fun _ cs x ids=>cs=e x/\ids=[]
theorem Hb {α:Type} {e:α->List AV} {z:Nat} (hz:∀x,(e x).length=z) (hc:∀x,(e x).all AV.cell=true) (hs:z<sJ):y7 (vY e) z where
 frame:=fun h _=>h
 len:=fun h=>by rw[h.1];exact hz _
 cell:=fun h=>by rw[h.1];exact hc _
 live:=fun h i hi=>by rw[h.2]at hi;cases hi
 small:=hs
def GD:IW e8:=fun g cs t ids=>∃i,cs=[.str t.aE,.own i 0 t.bY.length]/\g i=some ⟨true,1,t.bY.map aA⟩/\ids=[i]
theorem Ti:y7 GD 2 where
 frame:=fun⟨i,h1,h2,h3⟩ hf=>⟨i,h1,(hf i (by rw[h3];simp)).trans h2,h3⟩
 len:=fun⟨i,h1,_⟩=>by rw[h1];rfl
 cell:=fun⟨i,h1,_⟩=>by rw[h1];rfl
 live:=fun⟨i,h1,h2,h3⟩ j hj=>by
  rw[h3]at hj
  have:j=i:=by simpa using hj
  subst this
  exact⟨_,h2,rfl,by simp[sJ]⟩
 small:=by simp[sJ]
theorem Rh {g:Rows} {cs:List AV} {t:e8} {ids:List Id} (n:Nat) (h:GD g cs t ids):dj (eo g) (n+2) cs=some (bh t):=by
 obtain⟨i,rfl,h2,_⟩:=h
 have h3:V.fz (eo g) (n+2) (.own i 0 t.bY.length)=some (.sl (t.bY.map aA)):=gO (e:=aA) (sz:=1) (by simp[eo,h2]) rfl fun x=>by simp[aA,aj,ar,aK]
 simp only[aj,ar,bp,h3,Option.map_some,bh]
end Go.Proofs.YtgoljkjaameagaaGreat.V

namespace Go.Proofs.YtgoljkjaameagaaGreat.V
open Go.RowKit
attribute [local irreducible] ej wpOps fQ Call
attribute [local go_sem] aH fq eD fH fG cV upd bZ K.av cC AV.cells AV.cell rowOf rowsOf part ld rowAt bK bR du dQ gE bB cR eb fF eL dh dV cP cN dD dE bF aT cG bE cI cH dS dW dU cF bJ cQ dR bD aJ cK cm gD bd cz bG aP dn aX dv AV.undef bj bx dG dO dz dF cu ea ei ck dY dX cJ cL List.getD_cons_zero List.getD_cons_succ List.getD_nil List.all_cons List.all_nil Bool.and_true Bool.true_and Bool.and_self Bool.not_true Bool.not_false Option.map_some Option.map_none Option.bind_some Option.bind_none List.length_cons List.length_nil List.take_succ_cons List.take_zero List.take_nil List.drop_succ_cons List.drop_zero List.drop_nil List.head?_cons List.map_cons List.map_nil List.getElem?_cons_zero List.getElem?_cons_succ List.cons_append List.nil_append List.append_nil List.length_map List.set_cons_zero List.set_cons_succ Nat.reduceMul eq_self Int.toNat_natCast Int.natCast_nonneg and_self true_and and_true decide_true decide_false Bool.false_eq_true Nat.zero_add Nat.add_zero List.contains_cons List.contains_nil Bool.or_false Bool.false_or beq_self_eq_true Nat.reduceBEq ne_eq not_true_eq_false not_false_eq_true Id.mk.injEq false_and and_false Nat.reduceLT Int.reduceLE Int.reduceLT Int.reduceToNat Int.reduceNeg Int.reduceAdd Nat.le_refl List.length_append beq_true beq_false Bool.not_eq_eq_eq_not or_false false_or eo aj ar aK aV bp bW aQ aZ aN aU cD bI
theorem flatG:y7 (vY cw) 2:=Hb (fun _=>rfl) (fun _=>rfl) (by simp[sJ])
theorem flatP:y7 (vY ai) 3:=Hb (fun _=>rfl) (fun _=>rfl) (by simp[sJ])
def AsmO (g:Rows) (v:AV) (a:e7) (ids:List Id):Prop:=∃x,v=.agg [x]/\Dl (vY ai) 3 g x a.ae ids
structure SysO (g:Rows) (v:AV) (s:aG) (ids:List Id):Prop where
 ex:∃a b c i1 i2 i3,v=.agg [a,b,c,.int .i64 s.aw]/\Dl (vY cw) 2 g a s.az.aC i1/\Dl GD 2 g b s.az.ae i2/\Dl (vY ai) 3 g c s.cr.ae i3/\ids=i1++(i2++i3)
end Go.Proofs.YtgoljkjaameagaaGreat.V

namespace Go.Proofs.YtgoljkjaameagaaGreat
open Go.RowKit
end Go.Proofs.YtgoljkjaameagaaGreat

namespace Go.Proofs.YtgoljkjaameagaaGreat.V
open Go.RowKit
attribute [local irreducible] ej wpOps fQ Call
attribute [local go_sem] aH fq eD fH fG cV upd bZ K.av cC AV.cells AV.cell rowOf rowsOf part ld rowAt bK bR du dQ gE bB cR eb fF eL dh dV cP cN dD dE bF aT cG bE cI cH dS dW dU cF bJ cQ dR bD aJ cK cm gD bd cz bG aP dn aX dv AV.undef bj bx dG dO dz dF cu ea ei ck dY dX cJ cL List.getD_cons_zero List.getD_cons_succ List.getD_nil List.all_cons List.all_nil Bool.and_true Bool.true_and Bool.and_self Bool.not_true Bool.not_false Option.map_some Option.map_none Option.bind_some Option.bind_none List.length_cons List.length_nil List.take_succ_cons List.take_zero List.take_nil List.drop_succ_cons List.drop_zero List.drop_nil List.head?_cons List.map_cons List.map_nil List.getElem?_cons_zero List.getElem?_cons_succ List.cons_append List.nil_append List.append_nil List.length_map List.set_cons_zero List.set_cons_succ Nat.reduceMul eq_self Int.toNat_natCast Int.natCast_nonneg and_self true_and and_true decide_true decide_false Bool.false_eq_true Nat.zero_add Nat.add_zero List.contains_cons List.contains_nil Bool.or_false Bool.false_or beq_self_eq_true Nat.reduceBEq ne_eq not_true_eq_false not_false_eq_true Id.mk.injEq false_and and_false Nat.reduceLT Int.reduceLE Int.reduceLT Int.reduceToNat Int.reduceNeg Int.reduceAdd Nat.le_refl List.length_append beq_true beq_false Bool.not_eq_eq_eq_not or_false false_or eo aj ar aK aV bp bW aQ aZ aN aU cD bI
def But (σ:ax) (ids:List Id) (g:Rows) (n:Nat):Prop:=σ.next<=n/\∀x:Id,x.bt<σ.next->x∉ids->g x=σ.get x
end Go.Proofs.YtgoljkjaameagaaGreat.V

namespace Go.Proofs.YtgoljkjaameagaaGreat.V
open Go.RowKit
attribute [local irreducible] ej wpOps fQ Call
attribute [local go_sem] aH fq eD fH fG cV upd bZ K.av cC AV.cells AV.cell rowOf rowsOf part ld rowAt bK bR du dQ gE bB cR eb fF eL dh dV cP cN dD dE bF aT cG bE cI cH dS dW dU cF bJ cQ dR bD aJ cK cm gD bd cz bG aP dn aX dv AV.undef bj bx dG dO dz dF cu ea ei ck dY dX cJ cL List.getD_cons_zero List.getD_cons_succ List.getD_nil List.all_cons List.all_nil Bool.and_true Bool.true_and Bool.and_self Bool.not_true Bool.not_false Option.map_some Option.map_none Option.bind_some Option.bind_none List.length_cons List.length_nil List.take_succ_cons List.take_zero List.take_nil List.drop_succ_cons List.drop_zero List.drop_nil List.head?_cons List.map_cons List.map_nil List.getElem?_cons_zero List.getElem?_cons_succ List.cons_append List.nil_append List.append_nil List.length_map List.set_cons_zero List.set_cons_succ eq_self Int.toNat_natCast Int.natCast_nonneg and_self true_and and_true decide_true decide_false Bool.false_eq_true Nat.zero_add Nat.add_zero List.contains_cons List.contains_nil Bool.or_false Bool.false_or beq_self_eq_true ne_eq not_true_eq_false not_false_eq_true Id.mk.injEq false_and and_false Nat.le_refl List.length_append beq_true beq_false Bool.not_eq_eq_eq_not or_false false_or eo aj ar aK aV bp bW aQ aZ aN aU cD bI
section
variable {P:Program} {α:Type} {e:α->List AV} {z:Nat} {g g':Rows} {v:AV} {L:List α} {ids:List Id}
def On (e:α->List AV) (z:Nat) (g:Rows) (v:AV) (L:List α) (ids:List Id):Prop:=(L=[]/\v=.cq/\ids=[])∨∃o,v=.own o 0 L.length/\g o=some ⟨true,z,L.map e⟩/\ids=[o]/\0<L.length
def PZ (e:α->List AV) (L:List α):AV:=if L.length=0 then .cq else .sl (L.map e)
def Gx (e:α->List AV) (L:List α) (w:AV):Prop:=(w=.cq/\L=[])∨w=.sl (L.map e)
def Rr (P:Program) (f:Nat) (args:List AV) (e:α->List AV) (z:Nat) (L:List α) (c:Int):Prop:=
 ∀n:Nat,Call P f args ⟨fun _=>none,n⟩ (fun r σ'=>∃v ids,r=.im [v,.int .i64 c]/\On e z σ'.get v L ids/\Gz n σ'.next ids)
theorem NL (hm:P.follows .mixedOrders=true) {f:Nat} {args:List AV} {σ:ax} {K:AV->ax->Prop} (h:Call P f args σ K):Call P f args σ (fun r σ'=>K r σ'/\σ.next<=σ'.next):=
 fR fun hs D ι w vs S U A=>(iA hm h hs D ι w vs S U A).mono (by
  rintro e w' ⟨r,g',n',D2,ι1,u,rfl,hK,T,S1,U1,hn,hR⟩
  exact⟨r,g',n',D2,ι1,u,rfl,⟨hK,hn⟩,T,S1,U1,hn,hR⟩)
theorem AB:Gx e L (PZ e L):=by
 unfold PZ
 split
 ·rename_i h;exact .inl ⟨rfl,List.eq_nil_of_length_eq_zero h⟩
 ·exact .inr rfl
end
end Go.Proofs.YtgoljkjaameagaaGreat.V

namespace Go.Proofs.YtgoljkjaameagaaGreat.V
open Go.RowKit
attribute [local irreducible] ej wpOps fQ Call
attribute [local go_sem] aH fq eD fH fG cV upd bZ K.av cC AV.cells AV.cell rowOf rowsOf part ld rowAt bK bR du dQ gE bB cR eb fF eL dh dV cP cN dD dE bF aT cG bE cI cH dS dW dU cF bJ cQ dR bD aJ cK cm gD bd cz bG aP dn aX dv AV.undef bj bx dG dO dz dF cu ea ei ck dY dX cJ cL List.getD_cons_zero List.getD_cons_succ List.getD_nil List.all_cons List.all_nil Bool.and_true Bool.true_and Bool.and_self Bool.not_true Bool.not_false Option.map_some Option.map_none Option.bind_some Option.bind_none List.length_cons List.length_nil List.take_succ_cons List.take_zero List.take_nil List.drop_succ_cons List.drop_zero List.drop_nil List.head?_cons List.map_cons List.map_nil List.getElem?_cons_zero List.getElem?_cons_succ List.cons_append List.nil_append List.append_nil List.length_map List.set_cons_zero List.set_cons_succ Nat.reduceMul eq_self Int.toNat_natCast Int.natCast_nonneg and_self true_and and_true decide_true decide_false Bool.false_eq_true Nat.zero_add Nat.add_zero List.contains_cons List.contains_nil Bool.or_false Bool.false_or beq_self_eq_true Nat.reduceBEq ne_eq not_true_eq_false not_false_eq_true Id.mk.injEq false_and and_false Nat.reduceLT Int.reduceLE Int.reduceLT Int.reduceToNat Int.reduceNeg Int.reduceAdd Nat.le_refl List.length_append beq_true beq_false Bool.not_eq_eq_eq_not or_false false_or eo aj ar aK aV bp bW aQ aZ aN aU cD bI
theorem OL (g:Rows) (n:Nat) (x:ad):ep g (n+1) (ai x)=some (ai x):=by simp[ai,aS,bm,dr]
def MkA (n:Nat) (L:List ad) (r:AV) (σ':ax):Prop:=∃o:Id,r=.agg [.own o 0 L.length]/\σ'.get o=some ⟨true,3,L.map ai⟩/\n<=o.bt/\o.bt<σ'.next
def nz (s:au) (F:ah->Int) (p:ah) (d:Nat):Int:=if F (aW p d)<0 then 0 else cY (cZ s (F (aW p d))) (j6 d)
def nA (s:au) (F:ah->Int) (p:ah) (k:Nat):List Int:=(List.range k).map (nz s F p)
theorem zJ (s:au) (F:ah->Int) (p:ah) (k:Nat):(nA s F p k).length=k:=by simp[nA]
theorem EY (s:au) (F:ah->Int) (p:ah) (k:Nat):nA s F p (k+1)=nA s F p k++[nz s F p k]:=by simp[nA,List.range_succ]
theorem Hh {s:au} {F:ah->Int} {p:ah} {k d:Nat} (h:d<k):((nA s F p k).map aA)[d]? =some [.int .i64 (nz s F p d)]:=by simp[nA,h,aA]
theorem EO {s:au} (hF:iH s) {F:ah->Int} (hT:∀q,0<=F q->eK s (F q)=true) {p:ah} {t:Int} (ht:eK s t=true) {d:Nat} (hd:d<4):
  di s F p t (d+1)=if cY (cZ s t) d=nz s F p d then di s F p t d+oG s (nz s F p d)else di s F p t d:=by
 rw[di]
 unfold nz
 by_cases h0:F (aW p d)<0
 ·rw[if_neg (by omega),if_pos h0]
  have:oG s 0=0:=if_pos rfl
  rw[this,Int.add_zero]
  split<;>rfl
 ·rw[if_pos (by omega),if_neg h0]
  unfold gC
  split
  ·rename_i e;rw[e]
  ·rw[Int.add_zero]
theorem Jy {s:au} (hF:iH s) {F:ah->Int} (hT:∀q,0<=F q->eK s (F q)=true) (p:ah) {d:Nat} (hd:d<4):0<=nz s F p d/\nz s F p d<=s.aC.length:=by
 unfold nz
 split
 ·exact⟨Int.le_refl _,by omega⟩
 ·rename_i h0
  obtain⟨_,_,a2⟩:=jL (hT _ (by omega:0<=F (aW p d)))
  exact hF.r7 _ a2 _ (uM (hF.oU _ a2) (pE (gr (by omega))))
noncomputable def xr (s:au) (l:List ad) (T:Int) (p:ah) (t:Int):Bool:=decide (T<=oJ s (gz l) p t)
theorem Ji {s:aG} {l:List ad} {p:ah} (h:y9 l p) (hA:jM s.az l) (t:Int):eu s l p t=xr s.az l s.aw p t:=by
 obtain⟨h1,h2,_⟩:=h
 simp[eu,xr,h1,(GI hA p).2 h2]
theorem J8 (s:au) (hS:gJ s) (l:List ad) (hA:jM s l) (p:ah) (hx:iB p.eI) (hy:iB p.eB) (T:Int):
  aq Tryz.prog 148 [.dd (aa s),.dd [.sl (l.map ai)],.agg (ab p),.int .i64 T] (.sl ((jQ (xr s l T) p s.ae.length).map aA)):=by
 refine aq.body eE rfl fun kM n0=>?_
 clear kM
 have hF:=hS.form
 have Gn:=hS.uS
 have Sd:∀q,0<=gz l q->eK s (gz l q)=true:=gJ.KZ hA
 (try((repeat(revert hN;revert N;apply Pn.out));refine wk @ab.eq_1 ?_;(repeat(refine Pn.mk ?_;intro N hN))))
 refine aM (fun n env st=>∃k:Nat,n=(4)-k/\k<=(4)/\env 10=.int .i64 (k:Int)/\st.get ⟨148000000,n0⟩=some ⟨true,2,[ab p]⟩/\(n0+2<=st.next/\∃o:Id,env 9=.own o 0 k/\st.get o=some ⟨true,1,(nA s (gz l) p k).map aA⟩/\n0<o.bt/\o.bt<st.next)) (4) ⟨0,by omega,by omega,sl @ab.eq_1,sl @ab.eq_1,by(try dsimp only);exact⟨by omega,⟨148001000,n0+1⟩,sl @Nat.zero_add,sl @Nat.zero_add,by(try dsimp only);omega,by(try dsimp only);omega⟩⟩ ?_
 rintro n_a env_a st_a ⟨k,rfl,ale,mu,ag0,mE⟩ dq
 have a0:=dq 0 (by kernel_rfl);have a1:=dq 1 (by kernel_rfl);have a3:=dq 3 (by kernel_rfl);have a6:=dq 6 (by kernel_rfl)
 simp only[go_sem, ↓reduceIte,Nat.reduceEqDiff,Nat.reduceAdd,Nat.reduceSub,Nat.reduceLeDiff,reduceCtorEq,ab]at a0 a1 a3 a6
 clear dq
 obtain⟨an,o,a9,ag,Rx,aox⟩:=mE
 have vo:=ef aox
 have vb:=ef (i:=⟨148000000,n0⟩) (n:=st_a.next) (by(try dsimp only);omega)
 have ob:=dI (a:=⟨148000000,n0⟩) (b:=o) (by(try dsimp only);omega)
 by_cases hk:(k:Int)<4
 ·have cE:∀{e:Env} {gg:Rows} {nx:Nat},(e 10=.int .i64 (IntKind.i64.wrap ((k:Int)+1)))->(gg ⟨148000000,n0⟩=some ⟨true,2,[ab p]⟩)->(n0+2<=nx/\∃o:Id,e 9=.own o 0 (k+1)/\gg o=some ⟨true,1,(nA s (gz l) p (k+1)).map aA⟩/\n0<o.bt/\o.bt<nx)->∃m0,m0<(4)-k/\∃k:Nat,m0=(4)-k/\k<=(4)/\e 10=.int .i64 (k:Int)/\gg ⟨148000000,n0⟩=some ⟨true,2,[ab p]⟩/\(n0+2<=nx/\∃o:Id,e 9=.own o 0 k/\gg o=some ⟨true,1,(nA s (gz l) p k).map aA⟩/\n0<o.bt/\o.bt<nx):=fun x1 x2 x3=>⟨_,by omega,k+1,rfl,by omega,(by rw[x1,aB (by omega)]),x2,x3⟩
  have hd:gn (k:Int) 0 3=true:=gr (by omega)
  have dL:=rD p k hd hx hy
  have yW:=J7 l (aW p k) hA.1.Oi (by have:=hA.1.A6;omega)
  rw[ab]at dL yW
  have gm:((nA s (gz l) p k).map aA).length=k:=by rw[List.length_map,zJ]
  have ph:k<=16777215:=by omega
  have NV:=EY s (gz l) p k
  have qO:(nA s (gz l) p (k+1)).map aA=(nA s (gz l) p k).map aA++[[.int .i64 (nz s (gz l) p k)]]:=by rw[NV,List.map_append];rfl
  by_cases h0:gz l (aW p k)<0
  ·have qM:nz s (gz l) p k=0:=if_pos h0
   rw[qM]at qO
   (repeat(first|((repeat(revert hN;revert N;apply Pn.out));refine wk (tw @mu (tw @ag0 (tw @a0 (tw @a1 (tw @a3 (tw @a6 (tw @hk (tw @a9 (tw @ag (tw @vo (tw @vb (tw @ob (tw @gm (tw @ph (tw @h0 @ab.eq_1))))))))))))))) ?_;(repeat(refine Pn.mk ?_;intro N hN)))|((try apply Or.inl);refine⟨_,aq.x (dL) (sd (tw @mu (tw @ag0 (tw @a0 (tw @a1 (tw @a3 (tw @a6 (tw @hk (tw @a9 (tw @ag (tw @vo (tw @vb (tw @ob (tw @gm (tw @ph (tw @h0 @ab.eq_1)))))))))))))))),?_⟩;refine hN _ _ ?_;clear hN N)|((try apply Or.inl);refine⟨_,aq.x (yW) (sd (tw @mu (tw @ag0 (tw @a0 (tw @a1 (tw @a3 (tw @a6 (tw @hk (tw @a9 (tw @ag (tw @vo (tw @vb (tw @ob (tw @gm (tw @ph (tw @h0 @ab.eq_1)))))))))))))))),?_⟩;refine hN _ _ ?_;clear hN N)))
   refine cE ?_ ?_ (by(try dsimp only);exact⟨by omega,⟨148007002,st_a.next+1+1+1⟩,sl @Nat.zero_add,by rw[qO];simp only[go_sem, ↓reduceIte,Nat.reduceEqDiff,Nat.reduceAdd,Nat.reduceSub,Nat.reduceLeDiff,reduceCtorEq]<;>rfl,by(try dsimp only);omega,by(try dsimp only);omega⟩)
   all_goals simp only[go_sem, ↓reduceIte,Nat.reduceEqDiff,Nat.reduceAdd,Nat.reduceSub,Nat.reduceLeDiff,reduceCtorEq,mu,ag0,a0,a1,a3,a6,vb,ob,ab]
  ·have qM:nz s (gz l) p k=cY (cZ s (gz l (aW p k))) (j6 k):=if_neg h0
   rw[qM]at qO
   obtain⟨b0,b1,b2⟩:=jL (Sd _ (by omega:0<=gz l (aW p k)))
   have s2:=kE (hF.oU _ b2) (pE hd)
   have d1:=(dM (pE hd)).1
   have dB:=tj k hd
   (repeat(first|((repeat(revert hN;revert N;apply Pn.out));refine wk (tw @mu (tw @ag0 (tw @a0 (tw @a1 (tw @a3 (tw @a6 (tw @hk (tw @a9 (tw @ag (tw @vo (tw @vb (tw @ob (tw @gm (tw @ph (tw @h0 (tw @b0 (tw @b1 (tw @s2 (tw @d1 (tw @ab.eq_1 (tw @aa.eq_1 @bh.eq_1))))))))))))))))))))) ?_;(repeat(refine Pn.mk ?_;intro N hN)))|((try apply Or.inl);refine⟨_,aq.x (dL) (sd (tw @mu (tw @ag0 (tw @a0 (tw @a1 (tw @a3 (tw @a6 (tw @hk (tw @a9 (tw @ag (tw @vo (tw @vb (tw @ob (tw @gm (tw @ph (tw @h0 (tw @b0 (tw @b1 (tw @s2 (tw @d1 (tw @ab.eq_1 (tw @aa.eq_1 @bh.eq_1)))))))))))))))))))))),?_⟩;refine hN _ _ ?_;clear hN N)|((try apply Or.inl);refine⟨_,aq.x (yW) (sd (tw @mu (tw @ag0 (tw @a0 (tw @a1 (tw @a3 (tw @a6 (tw @hk (tw @a9 (tw @ag (tw @vo (tw @vb (tw @ob (tw @gm (tw @ph (tw @h0 (tw @b0 (tw @b1 (tw @s2 (tw @d1 (tw @ab.eq_1 (tw @aa.eq_1 @bh.eq_1)))))))))))))))))))))),?_⟩;refine hN _ _ ?_;clear hN N)|((try apply Or.inl);refine⟨_,aq.x (dB) (sd (tw @mu (tw @ag0 (tw @a0 (tw @a1 (tw @a3 (tw @a6 (tw @hk (tw @a9 (tw @ag (tw @vo (tw @vb (tw @ob (tw @gm (tw @ph (tw @h0 (tw @b0 (tw @b1 (tw @s2 (tw @d1 (tw @ab.eq_1 (tw @aa.eq_1 @bh.eq_1)))))))))))))))))))))),?_⟩;refine hN _ _ ?_;clear hN N)))
   refine cE ?_ ?_ (by(try dsimp only);exact⟨by omega,⟨148008014,st_a.next+1+1+1⟩,sl @Nat.zero_add,by rw[qO];simp only[go_sem, ↓reduceIte,Nat.reduceEqDiff,Nat.reduceAdd,Nat.reduceSub,Nat.reduceLeDiff,reduceCtorEq]<;>rfl,by(try dsimp only);omega,by(try dsimp only);omega⟩)
   all_goals simp only[go_sem, ↓reduceIte,Nat.reduceEqDiff,Nat.reduceAdd,Nat.reduceSub,Nat.reduceLeDiff,reduceCtorEq,mu,ag0,a0,a1,a3,a6,vb,ob,ab]
 ·have SE:k=4:=by omega
  subst SE
  (try((repeat(revert hN;revert N;apply Pn.out));refine wk (tw @mu (tw @ag0 (tw @a0 (tw @a1 (tw @a3 (tw @a6 (tw @hk @aa.eq_1))))))) ?_;(repeat(refine Pn.mk ?_;intro N hN))))
  refine aM (fun n env st=>∃i:Nat,n=(s.ae.length)-i/\i<=(s.ae.length)/\env 13=.int .i64 (i:Int)/\(st_a.next<=st.next/\st.get o=some ⟨true,1,(nA s (gz l) p 4).map aA⟩/\∃u:Id,env 12=.own u 0 (jQ (xr s l T) p i).length/\st.get u=some ⟨true,1,(jQ (xr s l T) p i).map aA⟩/\st_a.next<=u.bt/\u.bt<st.next)) (s.ae.length) ⟨0,by omega,by omega,sl (tw @mu (tw @ag0 (tw @a0 (tw @a1 (tw @a3 (tw @a6 (tw @a9 @aa.eq_1))))))),by(try dsimp only);exact⟨by omega,sd (tw @vo @ag),⟨148009000,st_a.next+1⟩,sl @Nat.zero_add,sl @Nat.zero_add,by(try dsimp only);omega,by(try dsimp only);omega⟩⟩ ?_
  rintro n_b env_b st_b ⟨i,rfl,ble,Bw,bI0⟩ eP
  have b0:=eP 0 (by kernel_rfl);have b1:=eP 1 (by kernel_rfl);have b3:=eP 3 (by kernel_rfl);have b9:=eP 9 (by kernel_rfl)
  simp only[go_sem, ↓reduceIte,Nat.reduceEqDiff,Nat.reduceAdd,Nat.reduceSub,Nat.reduceLeDiff,reduceCtorEq,mu,ag0,a0,a1,a3,a6,a9,aa]at b0 b1 b3 b9
  clear eP
  obtain⟨bn,bo,u,Ox,bu,bum,bux⟩:=bI0
  have vob:=ef (i:=o) (n:=st_b.next) (by omega)
  have vub:=ef bux
  have E7:=qa (xr s l T) p i
  have ou:=dI (a:=o) (b:=u) (by omega)
  by_cases hi:(i:Int)<(s.ae.length:Int)
  ·have eY:∀{e:Env} {gg:Rows} {nx:Nat},(e 13=.int .i64 (IntKind.i64.wrap ((i:Int)+1)))->(st_a.next<=nx/\gg o=some ⟨true,1,(nA s (gz l) p 4).map aA⟩/\∃u:Id,e 12=.own u 0 (jQ (xr s l T) p (i+1)).length/\gg u=some ⟨true,1,(jQ (xr s l T) p (i+1)).map aA⟩/\st_a.next<=u.bt/\u.bt<nx)->∃m0,m0<(s.ae.length)-i/\∃i:Nat,m0=(s.ae.length)-i/\i<=(s.ae.length)/\e 13=.int .i64 (i:Int)/\(st_a.next<=nx/\gg o=some ⟨true,1,(nA s (gz l) p 4).map aA⟩/\∃u:Id,e 12=.own u 0 (jQ (xr s l T) p i).length/\gg u=some ⟨true,1,(jQ (xr s l T) p i).map aA⟩/\st_a.next<=u.bt/\u.bt<nx):=fun x1 x2=>⟨_,by omega,i+1,rfl,by omega,(by rw[x1,aB (by omega)]),x2⟩
   have e9:i<s.ae.length:=by omega
   have htb:=AP e9
   obtain⟨t0,t1,t2⟩:=jL htb
   rw[Int.toNat_natCast]at t1
   have wD:di s (gz l) p i 0=0:=rfl
   (try((repeat(revert hN;revert N;apply Pn.out));refine wk (tw @Bw (tw @b0 (tw @b1 (tw @b3 (tw @b9 @hi))))) ?_;(repeat(refine Pn.mk ?_;intro N hN))))
   refine aM (fun n env st=>∃j:Nat,n=(4)-j/\j<=(4)/\env 15=.int .i64 (j:Int)/\env 14=.int .i64 (di s (gz l) p i j)/\(st_b.next<=st.next/\∀x:Id,x.bt<st_b.next->st.get x=st_b.get x)) (4) ⟨0,by omega,by omega,sl (tw @Bw (tw @b0 (tw @b1 (tw @b3 (tw @b9 (tw @a9 (tw @wD @aa.eq_1))))))),sl (tw @Bw (tw @b0 (tw @b1 (tw @b3 (tw @b9 (tw @a9 (tw @wD @aa.eq_1))))))),by(try dsimp only);exact⟨by omega,fun x hx=>by
    have h1:=ef hx
    simp only[go_sem, ↓reduceIte,Nat.reduceEqDiff,Nat.reduceAdd,Nat.reduceSub,Nat.reduceLeDiff,reduceCtorEq,h1]⟩⟩ ?_
   rintro n_c env_c st_c ⟨j,rfl,cle,c15,c14,cI0⟩ il
   have c0:=il 0 (by kernel_rfl);have c3:=il 3 (by kernel_rfl);have c9:=il 9 (by kernel_rfl);have oZ:=il 12 (by kernel_rfl);have GY:=il 13 (by kernel_rfl)
   simp only[go_sem, ↓reduceIte,Nat.reduceEqDiff,Nat.reduceAdd,Nat.reduceSub,Nat.reduceLeDiff,reduceCtorEq,Bw,b0,b1,b3,b9,a9,wD,aa]at c0 c3 c9 oZ GY
   clear il
   obtain⟨cn,il⟩:=cI0
   have go:=(il o (by omega)).trans bo
   have gu:=(il u bux).trans bu
   have Qc:=ef (i:=o) (n:=st_c.next) (by omega)
   have vuc:=ef (i:=u) (n:=st_c.next) (by omega)
   by_cases hj:(j:Int)<4
   ·have fY:∀{e:Env} {gg:Rows} {nx:Nat},(e 15=.int .i64 (IntKind.i64.wrap ((j:Int)+1)))->(e 14=.int .i64 (di s (gz l) p i (j+1)))->(st_b.next<=nx/\∀x:Id,x.bt<st_b.next->gg x=st_b.get x)->∃m0,m0<(4)-j/\∃j:Nat,m0=(4)-j/\j<=(4)/\e 15=.int .i64 (j:Int)/\e 14=.int .i64 (di s (gz l) p i j)/\(st_b.next<=nx/\∀x:Id,x.bt<st_b.next->gg x=st_b.get x):=fun x1 x2 x3=>⟨_,by omega,j+1,rfl,by omega,(by rw[x1,aB (by omega)]),x2,x3⟩
    have hdj:gn (j:Int) 0 3=true:=gr (by omega)
    have NX:(j:Int)<((4:Nat):Int):=by omega
    have s1:=kE (hF.oU _ t2) hdj
    rw[Int.toNat_natCast]at s1
    have Pf:=Hh (s:=s) (F:=gz l) (p:=p) (k:=4) (d:=j) (by omega)
    have qN:((nA s (gz l) p 4).map aA).length=4:=by rw[List.length_map,zJ]
    have dL:=EO hF Sd (p:=p) htb (d:=j) (by omega)
    have fa:=jD hS (gz l) p i (j+1)
    have JE:=jD hS (gz l) p i j
    have j3:=Jy hF Sd p (d:=j) (by omega)
    have hss:=oN s (nz s (gz l) p j) j3.1 j3.2
    rw[aa]at hss
    by_cases he:cY (cZ s i) j=nz s (gz l) p j
    ·have xQ:decide (cY (cZ s i) j=nz s (gz l) p j)=true:=decide_eq_true he
     rw[if_pos he]at dL
     have hw:IntKind.i64.wrap (di s (gz l) p i j+oG s (nz s (gz l) p j))=di s (gz l) p i (j+1):=by rw[<-dL,bz (by omega)]
     (repeat(first|((repeat(revert hN;revert N;apply Pn.out));refine wk (tw @c15 (tw @c14 (tw @c0 (tw @c3 (tw @c9 (tw @oZ (tw @GY (tw @hj (tw @NX (tw @t1 (tw @s1 (tw @Pf (tw @go (tw @Qc (tw @xQ (tw @aa.eq_1 @bh.eq_1)))))))))))))))) ?_;(repeat(refine Pn.mk ?_;intro N hN)))|((try apply Or.inl);refine⟨_,aq.x (hss) (sd (tw @c15 (tw @c14 (tw @c0 (tw @c3 (tw @c9 (tw @oZ (tw @GY (tw @hj (tw @NX (tw @t1 (tw @s1 (tw @Pf (tw @go (tw @Qc (tw @xQ (tw @aa.eq_1 @bh.eq_1))))))))))))))))),?_⟩;refine hN _ _ ?_;clear hN N)))
     refine fY ?_ ?_ (by(try dsimp only);exact⟨by omega,fun x hx=>by exact il x hx⟩)
     all_goals simp only[go_sem, ↓reduceIte,Nat.reduceEqDiff,Nat.reduceAdd,Nat.reduceSub,Nat.reduceLeDiff,reduceCtorEq,c15,c14,c0,c3,c9,oZ,GY,hw,aa]
    ·have xQ:decide (cY (cZ s i) j=nz s (gz l) p j)=false:=decide_eq_false he
     rw[if_neg he]at dL
     (try((repeat(revert hN;revert N;apply Pn.out));refine wk (tw @c15 (tw @c14 (tw @c0 (tw @c3 (tw @c9 (tw @oZ (tw @GY (tw @hj (tw @NX (tw @t1 (tw @s1 (tw @Pf (tw @go (tw @Qc (tw @xQ (tw @aa.eq_1 @bh.eq_1)))))))))))))))) ?_;(repeat(refine Pn.mk ?_;intro N hN))))
     refine fY ?_ ?_ (by(try dsimp only);exact⟨by omega,fun x hx=>by exact il x hx⟩)
     all_goals simp only[go_sem, ↓reduceIte,Nat.reduceEqDiff,Nat.reduceAdd,Nat.reduceSub,Nat.reduceLeDiff,reduceCtorEq,c15,c14,c0,c3,c9,oZ,GY,dL,aa]
   ·have hj4:j=4:=by omega
    subst hj4
    have hZ:di s (gz l) p i 4=oJ s (gz l) p i:=rfl
    have rm:jQ (xr s l T) p (i+1)=if xr s l T p i=true then jQ (xr s l T) p i++[(i:Int)]else jQ (xr s l T) p i:=rfl
    have mV:xr s l T p i=decide (T<=oJ s (gz l) p i):=rfl
    generalize jQ (xr s l T) p i=L at rm Ox bu E7 gu
    cases hb:xr s l T p i
    ·rw[hb,if_neg (by simp)]at rm
     rw[hb]at mV
     (try((repeat(revert hN;revert N;apply Pn.out));refine wk (tw @c15 (tw @c14 (tw @c0 (tw @c3 (tw @c9 (tw @oZ (tw @GY (tw @hj (tw @hZ @mV.symm))))))))) ?_;(repeat(refine Pn.mk ?_;intro N hN))))
     exact eY (sd (tw @Bw (tw @b0 (tw @b1 (tw @b3 (tw @b9 (tw @c15 (tw @c14 (tw @c0 (tw @c3 (tw @c9 (tw @oZ (tw @GY @aa.eq_1))))))))))))) (by(try dsimp only);exact⟨by omega,go,⟨u,by rw[rm];simp only[go_sem, ↓reduceIte,Nat.reduceEqDiff,Nat.reduceAdd,Nat.reduceSub,Nat.reduceLeDiff,reduceCtorEq,c15,c14,c0,c3,c9,oZ,GY,Ox],by rw[rm];simp only[go_sem, ↓reduceIte,Nat.reduceEqDiff,Nat.reduceAdd,Nat.reduceSub,Nat.reduceLeDiff,reduceCtorEq,gu],by omega,by(try dsimp only);omega⟩⟩)
    ·rw[hb,if_pos rfl]at rm
     rw[hb]at mV
     have gm:(L.map aA).length=L.length:=by simp
     have hL1:L.length<=16777215:=by omega
     have wL:(L++[(i:Int)]).length=L.length+1:=by simp
     have vG:(L++[(i:Int)]).map aA=L.map aA++[[.int .i64 i]]:=by rw[List.map_append];rfl
     (try((repeat(revert hN;revert N;apply Pn.out));refine wk (tw @c15 (tw @c14 (tw @c0 (tw @c3 (tw @c9 (tw @oZ (tw @GY (tw @hj (tw @hZ (tw @mV.symm (tw @Ox (tw @gu (tw @vuc (tw @gm (tw @hL1 (tw @Qc @ou)))))))))))))))) ?_;(repeat(refine Pn.mk ?_;intro N hN))))
     exact eY (sd (tw @Bw (tw @b0 (tw @b1 (tw @b3 (tw @b9 (tw @c15 (tw @c14 (tw @c0 (tw @c3 (tw @c9 (tw @oZ (tw @GY @aa.eq_1))))))))))))) (by(try dsimp only);exact⟨by omega,sd (tw @go (tw @Qc @ou)),⟨⟨148020003,st_c.next+1+1⟩,by rw[rm,wL];simp only[go_sem, ↓reduceIte,Nat.reduceEqDiff,Nat.reduceAdd,Nat.reduceSub,Nat.reduceLeDiff,reduceCtorEq]<;>rfl,by rw[rm,vG];simp only[go_sem, ↓reduceIte,Nat.reduceEqDiff,Nat.reduceAdd,Nat.reduceSub,Nat.reduceLeDiff,reduceCtorEq]<;>rfl,by(try dsimp only);omega,by(try dsimp only);omega⟩⟩)
  ·have mC:i=s.ae.length:=by omega
   subst mC
   (try((repeat(revert hN;revert N;apply Pn.out));refine wk (tw @Bw (tw @b0 (tw @b1 (tw @b3 (tw @b9 (tw @hi @Ox)))))) ?_;(repeat(refine Pn.mk ?_;intro N hN))))
   exact iM (.inl rfl) (vs:=[.own u 0 (jQ (xr s l T) p s.ae.length).length]) (sd @Ox) (by
    simp only[eH]
    exact fw (e:=aA) (n:=5) bu rfl fun x=>by simp[aA,aS,bm,dr])
noncomputable def ij (s:aG) (ts:List ad) (q:ah):List Int:=jQ (eu s ts) q s.az.ae.length
def gZ (σ:ax) (O:Id) (s:aG) (ts:List ad) (A:ah->Prop) (g:Rows) (n:Nat):Prop:=σ.next<=n/\(∀x:Id,x.bt<σ.next->x≠O->g x=σ.get x)/\∃es:List En,g O=some ⟨true,mP.lp,es.map nU⟩/\vg g n es (ij s ts) A
theorem gZ.OE {σ:ax} {g:Rows} {n:Nat} {c T O:Id} {s s':aG} {ts Jc:List ad} {A:ah->Prop} (h:y6 σ.get σ.next c T O s ts) (hc:c≠O) (hT:T≠O) (k:gZ σ O s' Jc A g n):y6 g n c T O s ts:=
 h.frame k.1 (k.2.1 _ h.cv hc) (k.2.1 _ h.tv hT)
theorem gZ.frame {a:ax} {O:Id} {s:aG} {ts:List ad} {A:ah->Prop} {g g':Rows} {n n' m:Nat} (h:gZ a O s ts A g n) (ha:n<=m) (ho:O.bt<m) (hn:n<=n') (hf:∀x:Id,x.bt<m->g' x=g x):gZ a O s ts A g' n':=by
 refine⟨Nat.le_trans h.1 hn,fun x hx hO=>(hf x (Nat.lt_of_lt_of_le hx (Nat.le_trans h.1 ha))).trans (h.2.1 x hx hO),?_⟩
 obtain⟨es,h1,h2⟩:=h.2.2
 exact⟨es,(hf O ho).trans h1,h2.frame hn fun x hx _=>hf x (Nat.lt_of_lt_of_le hx ha)⟩
theorem CT:¬mP.lp=1:=by decide
theorem gZ.put {a:ax} {O:Id} {s:aG} {ts:List ad} {A A':ah->Prop} {g g':Rows} {n n':Nat} {es:List En} (h:gZ a O s ts A g n) (hg:g O=some ⟨true,mP.lp,es.map nU⟩) (hw:vg g n es (ij s ts) A) (hn:n<=n') (hf:∀x:Id,x.bt<n->x≠O->g' x=g x) {q:ah} {o:Id} (h0:ij s ts q≠[]) (ho:o.bt<n') (sH:g' o=some ⟨true,1,(ij s ts q).map aA⟩) (hO:g' O=some ⟨true,mP.lp,(l6 es q (.own o 0 (ij s ts q).length)).map nU⟩) (hA:∀p,A' p->A p∨p=q):gZ a O s ts A' g' n':=
 ⟨Nat.le_trans h.1 hn,fun x hx JX=>(hf x (Nat.lt_of_lt_of_le hx h.1) JX).trans (h.2.1 x hx JX),_,hO,((hw.frame hn fun x hx hr=>hf x hx (by
  rintro rfl
  obtain⟨k,r,hr⟩:=hr
  rw[hg]at hr
  injection hr with hr
  injection hr with _ hr _
  exact CT hr)).put h0 ho sH).mono hA⟩
theorem gZ.cut {a:ax} {O:Id} {s:aG} {ts:List ad} {A A':ah->Prop} {g g':Rows} {n n':Nat} {es:List En} (h:gZ a O s ts A g n) (hg:g O=some ⟨true,mP.lp,es.map nU⟩) (hw:vg g n es (ij s ts) A) (hn:n<=n') (hf:∀x:Id,x.bt<n->x≠O->g' x=g x) {q:ah} (h0:ij s ts q=[]) (hO:g' O=some ⟨true,mP.lp,(p4 es q).map nU⟩) (hA:∀p,A' p->A p∨p=q):gZ a O s ts A' g' n':=
 ⟨Nat.le_trans h.1 hn,fun x hx JX=>(hf x (Nat.lt_of_lt_of_le hx h.1) JX).trans (h.2.1 x hx JX),_,hO,((hw.frame hn fun x hx hr=>hf x hx (by
  rintro rfl
  obtain⟨k,r,hr⟩:=hr
  rw[hg]at hr
  injection hr with hr
  injection hr with _ hr _
  exact CT hr)).cut h0).mono hA⟩
theorem gZ.ow {a:ax} {O:Id} {s:aG} {ts:List ad} {A:ah->Prop} {g:Rows} {n:Nat} (h:gZ a O s ts A g n):KU a O g n:=by
 obtain⟨h1,h2,es,h3,_⟩:=h
 refine⟨h1,h2,_,h3,fun r hr=>?_⟩
 obtain⟨e,_,rfl⟩:=List.mem_map.1 hr
 exact⟨_,_,_,rfl⟩
theorem x9 {σ:ax} {c T O:Id} {s:aG} {ts:List ad} (h:y6 σ.get σ.next c T O s ts) (hc:c≠O) (hT:T≠O) (A:ah->Prop) (hO:∃es:List En,σ.get O=some ⟨true,mP.lp,es.map nU⟩/\vg σ.get σ.next es (ij s ts) A) (hS:gJ s.az) (hF:∀q,0<=gz ts q->eK s.az (gz ts q)=true) (p:ah) (hx:iB p.eI) (hy:iB p.eB):
  Call Tryz.prog 151 [.ptr c 0 0,.agg (ab p)] σ (fun r σ'=>r=.im []/\gZ σ O s ts (fun q=>A q∨∃k:Nat,k<4/\q=aW p k) σ'.get σ'.next):=by
 refine iq eE rfl fun kM=>?_
 clear kM
 have Gn:=hS.uS
 have h0:gZ σ O s ts (fun q=>A q∨∃k:Nat,k<0/\q=aW p k) σ.get σ.next:=⟨Nat.le_refl _,fun _ _ _=>rfl,by
  obtain⟨es,h1,h2⟩:=hO
  exact⟨es,h1,h2.mono fun q hq=>hq.elim id fun⟨k,hk,_⟩=>absurd hk (Nat.not_lt_zero k)⟩⟩
 (try((repeat(revert hN;revert N;apply Pn.out));refine wk @ab.eq_1 ?_;(repeat(refine Pn.mk ?_;intro N hN))))
 refine aM (fun n env st=>∃k:Nat,n=(4)-k/\k<=(4)/\env 8=.int .i64 (k:Int)/\st.get ⟨151000000,σ.next⟩=some ⟨true,2,[ab p]⟩/\(σ.next<st.next/\gZ σ O s ts (fun q=>A q∨∃j:Nat,j<k/\q=aW p j) st.get st.next)) (4) ⟨0,by omega,by omega,sl @ab.eq_1,sl @ab.eq_1,⟨by(try dsimp only);omega,h0.frame (Nat.le_refl _) h.ov (by(try dsimp only);omega) (fun x hx=>by
  have:=ef hx
  simp only[go_sem, ↓reduceIte,Nat.reduceEqDiff,Nat.reduceAdd,Nat.reduceSub,Nat.reduceLeDiff,reduceCtorEq,this])⟩⟩ ?_
 rintro n_a env_a st_a ⟨k,rfl,ale,a8,ag0,mE⟩ dq
 have a0:=dq 0 (by kernel_rfl);have a3:=dq 3 (by kernel_rfl)
 simp only[go_sem, ↓reduceIte,Nat.reduceEqDiff,Nat.reduceAdd,Nat.reduceSub,Nat.reduceLeDiff,reduceCtorEq,ab]at a0 a3
 clear dq
 obtain⟨an,ak⟩:=mE
 have ha:=ak.OE h hc hT
 by_cases hk:(k:Int)<4
 ·have cE:∀{e:Env} {gg:Rows} {nx:Nat},(e 8=.int .i64 (IntKind.i64.wrap ((k:Int)+1)))->(gg ⟨151000000,σ.next⟩=some ⟨true,2,[ab p]⟩)->(σ.next<nx/\gZ σ O s ts (fun q=>A q∨∃j:Nat,j<(k+1)/\q=aW p j) gg nx)->∃m0,m0<(4)-k/\∃k:Nat,m0=(4)-k/\k<=(4)/\e 8=.int .i64 (k:Int)/\gg ⟨151000000,σ.next⟩=some ⟨true,2,[ab p]⟩/\(σ.next<nx/\gZ σ O s ts (fun q=>A q∨∃j:Nat,j<k/\q=aW p j) gg nx):=fun x1 x2 x3=>⟨_,by omega,k+1,rfl,by omega,(by rw[x1,aB (by omega)]),x2,x3⟩
  have dL:=C1 p k (gr (by omega)) hx hy
  obtain⟨b,h1⟩:=ha.row
  have v1:=ef ha.cv
  (repeat(first|((repeat(revert hN;revert N;apply Pn.out));refine wk (tw @a8 (tw @ag0 (tw @a0 (tw @a3 (tw @hk (tw @h1 (tw @v1 @ab.eq_1))))))) ?_;(repeat(refine Pn.mk ?_;intro N hN)))|((try apply Or.inl);refine⟨_,aq.x (dL) (sd (tw @a8 (tw @ag0 (tw @a0 (tw @a3 (tw @hk (tw @h1 (tw @v1 @ab.eq_1)))))))),?_⟩;refine hN _ _ ?_;clear hN N)))
  refine aM (fun n env st=>∃t:Nat,n=(s.az.ae.length)-t/\t<=(s.az.ae.length)/\env 21=.int .i64 (t:Int)/\st.get ⟨151000000,σ.next⟩=some ⟨true,2,[ab p]⟩/\st.get ⟨151004003,st_a.next+1+1⟩=some ⟨true,2,[ab (aW p k)]⟩/\(st_a.next+3<=st.next/\gZ σ O s ts (fun q=>A q∨∃j:Nat,j<k/\q=aW p j) st.get st_a.next/\((jQ (eu s ts) (aW p k) t=[]/\env 6=.cq)∨∃o:Id,env 6=.own o 0 (jQ (eu s ts) (aW p k) t).length/\st.get o=some ⟨true,1,(jQ (eu s ts) (aW p k) t).map aA⟩/\0<(jQ (eu s ts) (aW p k) t).length/\st_a.next+3<=o.bt/\o.bt<st.next))) (s.az.ae.length) ⟨0,by omega,by omega,sl (tw @a8 (tw @ag0 (tw @a0 (tw @a3 @ab.eq_1)))),sl (tw @a8 (tw @ag0 (tw @a0 (tw @a3 @ab.eq_1)))),sl (tw @a8 (tw @ag0 (tw @a0 (tw @a3 @ab.eq_1)))),⟨by(try dsimp only);omega,ak.frame (Nat.le_refl _) ha.ov (Nat.le_refl _) (fun x hx=>(by
   have:=ef hx
   simp only[go_sem, ↓reduceIte,Nat.reduceEqDiff,Nat.reduceAdd,Nat.reduceSub,Nat.reduceLeDiff,reduceCtorEq,this])),.inl ⟨rfl,sd @Nat.zero_add⟩⟩⟩ ?_
  rintro n_b env_b st_b ⟨t,rfl,ble,b21,bg0,bg1,bI0⟩ eP
  have b0:=eP 0 (by kernel_rfl);have b3:=eP 3 (by kernel_rfl);have b5:=eP 5 (by kernel_rfl);have b8:=eP 8 (by kernel_rfl);have Gd:=eP 20 (by kernel_rfl)
  simp only[go_sem, ↓reduceIte,Nat.reduceEqDiff,Nat.reduceAdd,Nat.reduceSub,Nat.reduceLeDiff,reduceCtorEq,a8,ag0,a0,a3,ab]at b0 b3 b5 b8 Gd
  clear eP
  obtain⟨bn,bk,b6⟩:=bI0
  have O0:y6 st_b.get st_b.next c T O s ts:=(bk.OE h hc hT).frame (by omega) rfl rfl
  obtain⟨b2,h2⟩:=O0.row
  have v2:=ef O0.cv
  have vt:=ef (i:=⟨151000000,σ.next⟩) (n:=st_b.next) (by(try dsimp only);omega)
  have vq:=ef (i:=⟨151004003,st_a.next+1+1⟩) (n:=st_b.next) (by(try dsimp only);omega)
  by_cases ht:(t:Int)<(s.az.ae.length:Int)
  ·have eY:∀{e:Env} {gg:Rows} {nx:Nat},(e 21=.int .i64 (IntKind.i64.wrap ((t:Int)+1)))->(gg ⟨151000000,σ.next⟩=some ⟨true,2,[ab p]⟩)->(gg ⟨151004003,st_a.next+1+1⟩=some ⟨true,2,[ab (aW p k)]⟩)->(st_a.next+3<=nx/\gZ σ O s ts (fun q=>A q∨∃j:Nat,j<k/\q=aW p j) gg st_a.next/\((jQ (eu s ts) (aW p k) (t+1)=[]/\e 6=.cq)∨∃o:Id,e 6=.own o 0 (jQ (eu s ts) (aW p k) (t+1)).length/\gg o=some ⟨true,1,(jQ (eu s ts) (aW p k) (t+1)).map aA⟩/\0<(jQ (eu s ts) (aW p k) (t+1)).length/\st_a.next+3<=o.bt/\o.bt<nx))->∃m0,m0<(s.az.ae.length)-t/\∃t:Nat,m0=(s.az.ae.length)-t/\t<=(s.az.ae.length)/\e 21=.int .i64 (t:Int)/\gg ⟨151000000,σ.next⟩=some ⟨true,2,[ab p]⟩/\gg ⟨151004003,st_a.next+1+1⟩=some ⟨true,2,[ab (aW p k)]⟩/\(st_a.next+3<=nx/\gZ σ O s ts (fun q=>A q∨∃j:Nat,j<k/\q=aW p j) gg st_a.next/\((jQ (eu s ts) (aW p k) t=[]/\e 6=.cq)∨∃o:Id,e 6=.own o 0 (jQ (eu s ts) (aW p k) t).length/\gg o=some ⟨true,1,(jQ (eu s ts) (aW p k) t).map aA⟩/\0<(jQ (eu s ts) (aW p k) t).length/\st_a.next+3<=o.bt/\o.bt<nx)):=fun x1 x2 x3 x4=>⟨_,by omega,t+1,rfl,by omega,(by rw[x1,aB (by omega)]),x2,x3,x4⟩
   have PE:t<s.az.ae.length:=by omega
   have E7:=qa (eu s ts) (aW p k) t
   have rm:jQ (eu s ts) (aW p k) (t+1)=if eu s ts (aW p k) t=true then jQ (eu s ts) (aW p k) t++[(t:Int)]else jQ (eu s ts) (aW p k) t:=rfl
   generalize jQ (eu s ts) (aW p k) t=L at b6 E7 rm
   (try((repeat(revert hN;revert N;apply Pn.out));refine wk (tw @b21 (tw @bg0 (tw @bg1 (tw @b0 (tw @b3 (tw @b5 (tw @b8 (tw @Gd (tw @ht (tw @h2 (tw @v2 (tw @vt (tw @vq @ab.eq_1))))))))))))) ?_;(repeat(refine Pn.mk ?_;intro N hN))))
   refine .inl ⟨_,L3 (O0.frame (by(try dsimp only);omega) (sd @v2) (by(have:=ef O0.tv;simp only[go_sem, ↓reduceIte,Nat.reduceEqDiff,Nat.reduceAdd,Nat.reduceSub,Nat.reduceLeDiff,reduceCtorEq,this]))) hS hF (aW p k) t (AP PE),?_⟩
   refine hN _ _ ?_
   clear hN N
   cases hb:eu s ts (aW p k) t
   ·rw[hb,if_neg (by simp)]at rm
    (try((repeat(revert hN;revert N;apply Pn.out));refine wk (tw @b21 (tw @bg0 (tw @bg1 (tw @b0 (tw @b3 (tw @b5 (tw @b8 (tw @Gd @hb)))))))) ?_;(repeat(refine Pn.mk ?_;intro N hN))))
    refine eY ?_ ?_ ?_ (by(try dsimp only);exact⟨by omega,bk.frame (Nat.le_refl _) ha.ov (Nat.le_refl _) (fun x hx=>by
      have h1:=ef (i:=x) (n:=st_b.next) (by omega)
      simp only[go_sem, ↓reduceIte,Nat.reduceEqDiff,Nat.reduceAdd,Nat.reduceSub,Nat.reduceLeDiff,reduceCtorEq,h1]),by
     rw[rm]
     rcases b6 with⟨hL,h⟩|⟨o,h1,h2,h3,h4,h5⟩
     ·exact .inl ⟨hL,sd @h⟩
     ·have h8:=ef h5
      exact .inr ⟨o,sd @h1,sd (tw @h2 @h8),h3,h4,by omega⟩⟩)
    all_goals simp only[go_sem, ↓reduceIte,Nat.reduceEqDiff,Nat.reduceAdd,Nat.reduceSub,Nat.reduceLeDiff,reduceCtorEq,b21,bg0,bg1,b0,b3,b5,b8,Gd,ab,vt,vq]
   ·rw[hb,if_pos rfl]at rm
    have wL:(L++[(t:Int)]).length=L.length+1:=by simp
    have vG:(L++[(t:Int)]).map aA=L.map aA++[[.int .i64 t]]:=by rw[List.map_append];rfl
    rcases b6 with⟨hL,b6⟩|⟨o,b6,bo,o4,o6,o7⟩
    ·subst hL
     (try((repeat(revert hN;revert N;apply Pn.out));refine wk (tw @b21 (tw @bg0 (tw @bg1 (tw @b0 (tw @b3 (tw @b5 (tw @b8 (tw @Gd (tw @b6 @hb))))))))) ?_;(repeat(refine Pn.mk ?_;intro N hN))))
     refine eY ?_ ?_ ?_ (by(try dsimp only);exact⟨by omega,bk.frame (Nat.le_refl _) ha.ov (Nat.le_refl _) (fun x hx=>by
      have h1:=ef (i:=x) (n:=st_b.next) (by omega)
      simp only[go_sem, ↓reduceIte,Nat.reduceEqDiff,Nat.reduceAdd,Nat.reduceSub,Nat.reduceLeDiff,reduceCtorEq,h1]),.inr ⟨⟨151010003,st_b.next+1+1+1⟩,by rw[rm,wL];simp only[go_sem, ↓reduceIte,Nat.reduceEqDiff,Nat.reduceAdd,Nat.reduceSub,Nat.reduceLeDiff,reduceCtorEq]<;>rfl,by rw[rm,vG];simp only[go_sem, ↓reduceIte,Nat.reduceEqDiff,Nat.reduceAdd,Nat.reduceSub,Nat.reduceLeDiff,reduceCtorEq]<;>rfl,by rw[rm,wL];omega,by(try dsimp only);omega,by(try dsimp only);omega⟩⟩)
     all_goals simp only[go_sem, ↓reduceIte,Nat.reduceEqDiff,Nat.reduceAdd,Nat.reduceSub,Nat.reduceLeDiff,reduceCtorEq,b21,bg0,bg1,b0,b3,b5,b8,Gd,ab,vt,vq]
    ·have e1:L.length<=16777215:=by omega
     have Ch:(L.map aA).length=L.length:=by simp
     have vo:=ef o7
     have vto:=dI (a:=⟨151000000,σ.next⟩) (b:=o) (by(try dsimp only);omega)
     have vqo:=dI (a:=⟨151004003,st_a.next+1+1⟩) (b:=o) (by(try dsimp only);omega)
     (try((repeat(revert hN;revert N;apply Pn.out));refine wk (tw @b21 (tw @bg0 (tw @bg1 (tw @b0 (tw @b3 (tw @b5 (tw @b8 (tw @Gd (tw @b6 (tw @bo (tw @hb (tw @e1 (tw @Ch @vo))))))))))))) ?_;(repeat(refine Pn.mk ?_;intro N hN))))
     refine eY ?_ ?_ ?_ (by(try dsimp only);exact⟨by omega,bk.frame (Nat.le_refl _) ha.ov (Nat.le_refl _) (fun x hx=>by
      have h1:=ef (i:=x) (n:=st_b.next) (by omega)
      have h2:=dI (a:=x) (b:=o) (by omega)
      simp only[go_sem, ↓reduceIte,Nat.reduceEqDiff,Nat.reduceAdd,Nat.reduceSub,Nat.reduceLeDiff,reduceCtorEq,h1,h2]),.inr ⟨⟨151010003,st_b.next+1+1+1⟩,by rw[rm,wL];simp only[go_sem, ↓reduceIte,Nat.reduceEqDiff,Nat.reduceAdd,Nat.reduceSub,Nat.reduceLeDiff,reduceCtorEq]<;>rfl,by rw[rm,vG];simp only[go_sem, ↓reduceIte,Nat.reduceEqDiff,Nat.reduceAdd,Nat.reduceSub,Nat.reduceLeDiff,reduceCtorEq]<;>rfl,by rw[rm,wL];omega,by(try dsimp only);omega,by(try dsimp only);omega⟩⟩)
     all_goals simp only[go_sem, ↓reduceIte,Nat.reduceEqDiff,Nat.reduceAdd,Nat.reduceSub,Nat.reduceLeDiff,reduceCtorEq,b21,bg0,bg1,b0,b3,b5,b8,Gd,ab,vt,vq,vto,vqo]
  ·obtain⟨es,hg,how⟩:=bk.2.2
   have vo:=ef O0.ov
   obtain⟨fi,DQ,qd,Mm,_,_⟩:=wZ (aW p k) es
   unfold dz at qd
   unfold dF at Mm
   have hq:((⟨151000000,σ.next⟩:Id)=O)=False:=(dI (a:=O) (b:=⟨151000000,σ.next⟩) (by have:=h.ov;(try dsimp only);omega)).2
   have htt:t=s.az.ae.length:=by omega
   subst htt
   have rj:jQ (eu s ts) (aW p k) s.az.ae.length=ij s ts (aW p k):=rfl
   rw[rj]at b6
   have hAk:∀q,(A q∨∃j:Nat,j<k+1/\q=aW p j)->(A q∨∃j:Nat,j<k/\q=aW p j)∨q=aW p k:=fun q hq=>by
    rcases hq with hq|⟨j,hj,hq⟩
    ·exact .inl (.inl hq)
    ·rcases Nat.lt_or_ge j k with h|h
     ·exact .inl (.inr ⟨j,h,hq⟩)
     ·exact .inr (by rw[hq,show j=k by omega])
   rcases b6 with⟨hL,b6⟩|⟨o,b6,bo,o4,o6,o7⟩
   ·have d0:decide ((0:Int)<((0:Nat):Int))=false:=rfl
    (try((repeat(revert hN;revert N;apply Pn.out));refine wk (tw @b21 (tw @bg0 (tw @bg1 (tw @b0 (tw @b3 (tw @b5 (tw @b8 (tw @Gd (tw @b6 (tw @ht (tw @h2 (tw @v2 (tw @vt (tw @vq (tw @vo (tw @hg (tw @DQ (tw @Mm (tw @ab.eq_1 @d0))))))))))))))))))) ?_;(repeat(refine Pn.mk ?_;intro N hN))))
    refine cE ?_ ?_ (by(try dsimp only);exact⟨by omega,bk.cut hg how (by omega) (fun x hx JX=>by
     have h1:=ef (i:=x) (n:=st_b.next) (by omega)
     have h2:(x=O)=False:=eq_false JX
     simp only[go_sem, ↓reduceIte,Nat.reduceEqDiff,Nat.reduceAdd,Nat.reduceSub,Nat.reduceLeDiff,reduceCtorEq,h1,h2]) hL (sl @Mm) hAk⟩)
    all_goals simp only[go_sem, ↓reduceIte,Nat.reduceEqDiff,Nat.reduceAdd,Nat.reduceSub,Nat.reduceLeDiff,reduceCtorEq,a8,ag0,a0,a3,b21,bg0,bg1,b0,b3,b5,b8,Gd,ab,vt,vo,hq]
   ·have gM:ij s ts (aW p k)≠[]:=fun e=>by rw[e]at o4;cases o4
    have d1:decide ((0:Int)<((ij s ts (aW p k)).length:Int))=true:=decide_eq_true (by omega)
    have Hx:=qd (.own o 0 (ij s ts (aW p k)).length)
    have v8:=ef o7
    have oO:(o=O)=False:=eq_false (by
     rintro rfl
     rw[hg]at bo
     injection bo with bo
     injection bo with _ bo _
     exact CT bo)
    (try((repeat(revert hN;revert N;apply Pn.out));refine wk (tw @b21 (tw @bg0 (tw @bg1 (tw @b0 (tw @b3 (tw @b5 (tw @b8 (tw @Gd (tw @b6 (tw @ht (tw @h2 (tw @v2 (tw @vt (tw @vq (tw @vo (tw @hg (tw @DQ (tw @Hx (tw @ab.eq_1 @d1))))))))))))))))))) ?_;(repeat(refine Pn.mk ?_;intro N hN))))
    refine cE ?_ ?_ (by(try dsimp only);exact⟨by omega,bk.put hg how (by omega) (fun x hx JX=>by
     have h1:=ef (i:=x) (n:=st_b.next) (by omega)
     have h2:(x=O)=False:=eq_false JX
     simp only[go_sem, ↓reduceIte,Nat.reduceEqDiff,Nat.reduceAdd,Nat.reduceSub,Nat.reduceLeDiff,reduceCtorEq,h1,h2]) (o:=o) gM (by omega) (sd (tw @oO (tw @v8 @bo))) (sl @Hx) hAk⟩)
    all_goals simp only[go_sem, ↓reduceIte,Nat.reduceEqDiff,Nat.reduceAdd,Nat.reduceSub,Nat.reduceLeDiff,reduceCtorEq,a8,ag0,a0,a3,b21,bg0,bg1,b0,b3,b5,b8,Gd,ab,vt,vo,hq]
 ·have SE:k=4:=by omega
  subst SE
  (try((repeat(revert hN;revert N;apply Pn.out));refine wk (tw @a8 (tw @ag0 (tw @a0 (tw @a3 @hk)))) ?_;(repeat(refine Pn.mk ?_;intro N hN))))
  exact gQ (.inr rfl) (vs:=[]) rfl ⟨rfl,ak.frame (Nat.le_refl _) ha.ov (by(try dsimp only);omega) (fun x hx=>rfl)⟩
structure Gv (g:Rows) (n:Nat) (c T O:Id) (s:aG) (ts:List ad):Prop where
 o:oq g n c T O s ts
 op:∃es:List En,g O=some ⟨true,mP.lp,es.map nU⟩/\vg g n es (ij s ts) (fun _=>True)
theorem Gv.frame {g g':Rows} {n n':Nat} {c T O:Id} {s:aG} {ts:List ad} (h:Gv g n c T O s ts) (hn:n<=n') (hf:∀x:Id,x.bt<n->g' x=g x):Gv g' n' c T O s ts:=
 ⟨h.o.frame hn hf,by
  obtain⟨es,h1,h2⟩:=h.op
  exact⟨es,(hf _ h.o.ov).trans h1,h2.frame hn fun x hx _=>hf x hx⟩⟩
theorem oq.PS {σ:ax} {g:Rows} {n:Nat} {c T O:Id} {s:aG} {ts:List ad} {A:ah->Prop} (h:oq σ.get σ.next c T O s ts) (k:gZ σ O s ts A g n):oq g n c T O s ts:=h.look k.ow
theorem G9 {s:aG} (hT:1<=s.aw) {ts:List ad} {q:ah} (h:∀t∈ts,∀k:Nat,k<4->q≠aW t.bH k):ij s ts q=[]:=by
 unfold ij
 refine DJ (fun t=>?_) _
 cases hb:eu s ts q t
 ·rfl
 ·exfalso
  simp[eu]at hb
  obtain⟨⟨h1,h2⟩,h3⟩:=hb
  obtain⟨k,hk,h4⟩:=bind_some (s:=s.az) (F:=gz ts) (p:=q) (t:=t) 4 (by have:oJ s.az (gz ts) q t=di s.az (gz ts) q t 4:=rfl;omega)
  have h5:0<=eC ts (aW q k):=by
   unfold gz at h4
   split at h4
   ·assumption
   ·omega
  obtain⟨h6,h7⟩:=j4 h5
  have Mu:(j6 k).toNat<4/\((j6 k).toNat:Int)=j6 k:=by
   have:k=0∨k=1∨k=2∨k=3:=by omega
   rcases this with rfl|rfl|rfl|rfl<;>decide
  refine h _ (gP h6) (j6 k).toNat Mu.1 ?_
  rw[h7,Mu.2,xg q k hk]
theorem AF {l:List ad} {t:ad} (h:t∈l):∃j,j<l.length/\t=aO l j:=by
 obtain⟨j,hj,rfl⟩:=List.getElem_of_mem h
 exact⟨j,hj,(gy hj).symm⟩
def Bt (s:aG) (l:List ad) (j:Nat) (q:ah):Prop:=ij s l q=[]/\(∀i:Nat,i<l.length->∀k:Nat,k<4->q≠aW (aO l i).bH k)∨∃i:Nat,i<j/\∃k:Nat,k<4/\q=aW (aO l i).bH k
theorem IJ {s:aG} (hT:1<=s.aw) (l:List ad) (q:ah):Bt s l l.length q:=by
 by_cases h:∃i:Nat,i<l.length/\∃k:Nat,k<4/\q=aW (aO l i).bH k
 ·exact .inr h
 ·have h2:∀i:Nat,i<l.length->∀k:Nat,k<4->q≠aW (aO l i).bH k:=fun i hi k hk e=>h ⟨i,hi,k,hk,e⟩
  exact .inl ⟨G9 hT fun t ht k hk=>by
   obtain⟨j,hj,rfl⟩:=AF ht
   exact h2 j hj k hk,h2⟩
def Rs (σ:ax) (s:aG) (ts:List ad) (r:AV) (σ':ax):Prop:=
 ∃c T O:Id,r=.ptr c 0 0/\Gv σ'.get σ'.next c T O s ts/\σ.next<=c.bt/\σ.next<=T.bt/\σ.next<=O.bt/\σ.next<=σ'.next/\∀x:Id,x.bt<σ.next->σ'.get x=σ.get x
theorem yj (s:aG) (hS:gJ s.az) (Sc:1<=s.aw) (l:List ad) (hA:jM s.az l) (σ:ax):Call Tryz.prog 83 [.agg (aD s),.agg [.sl (l.map ai)]] σ (Rs σ s l):=by
 refine iq eE rfl fun kM=>?_
 clear kM
 have E6:=hA.1.A6
 (try((repeat(revert hN;revert N;apply Pn.out));refine wk @aD.eq_1 ?_;(repeat(refine Pn.mk ?_;intro N hN))))
 refine aM (fun n env st=>∃k:Nat,n=(l.length)-k/\k<=(l.length)/\env 18=.int .i64 (k:Int)/\st.get ⟨83001004,σ.next+1⟩=some ⟨true,6,[[.sl (s.az.aC.map cw),.sl (s.az.ae.map bh),.sl (s.cr.ae.map ai),.int .i64 s.aw,.map ⟨83001001,σ.next+1⟩ mP,.map ⟨83001002,σ.next+1⟩ mP]]⟩/\st.get ⟨83001001,σ.next+1⟩=some ⟨true,mP.lp,(l.take k).map ai⟩/\st.get ⟨83001002,σ.next+1⟩=some ⟨true,mP.lp,[]⟩/\st.get ⟨83000001,σ.next⟩=some ⟨true,1,[[.sl (l.map ai)]]⟩/\(σ.next+3<=st.next/\∀x:Id,x.bt<σ.next->st.get x=σ.get x)) (l.length) ⟨0,by omega,by omega,sl @Nat.zero_add,sl @Nat.zero_add,sl @Nat.zero_add,sl @Nat.zero_add,sl @Nat.zero_add,⟨by(try dsimp only);omega,fun x hx=>by
  have:=ef hx
  simp only[go_sem, ↓reduceIte,Nat.reduceEqDiff,Nat.reduceAdd,Nat.reduceSub,Nat.reduceLeDiff,reduceCtorEq,this]⟩⟩ ?_
 rintro n_a env_a st_a ⟨k,rfl,ale,a18,ag0,ag1,ag2,ag3,mE⟩ dq
 have a3:=dq 3 (by kernel_rfl);have a5:=dq 5 (by kernel_rfl);have NO:=dq 16 (by kernel_rfl);have a17:=dq 17 (by kernel_rfl)
 simp only[go_sem, ↓reduceIte,Nat.reduceEqDiff,Nat.reduceAdd,Nat.reduceSub,Nat.reduceLeDiff,reduceCtorEq]at a3 a5 NO a17
 clear dq
 obtain⟨an,dq⟩:=mE
 have v1:=ef (i:=⟨83001004,σ.next+1⟩) (n:=st_a.next) (by(try dsimp only);omega)
 have v2:=ef (i:=⟨83001001,σ.next+1⟩) (n:=st_a.next) (by(try dsimp only);omega)
 have v3:=ef (i:=⟨83001002,σ.next+1⟩) (n:=st_a.next) (by(try dsimp only);omega)
 have v4:=ef (i:=⟨83000001,σ.next⟩) (n:=st_a.next) (by(try dsimp only);omega)
 by_cases hk:(k:Int)<(l.length:Int)
 ·have cE:∀{e:Env} {gg:Rows} {nx:Nat},(e 18=.int .i64 (IntKind.i64.wrap ((k:Int)+1)))->(gg ⟨83001004,σ.next+1⟩=some ⟨true,6,[[.sl (s.az.aC.map cw),.sl (s.az.ae.map bh),.sl (s.cr.ae.map ai),.int .i64 s.aw,.map ⟨83001001,σ.next+1⟩ mP,.map ⟨83001002,σ.next+1⟩ mP]]⟩)->(gg ⟨83001001,σ.next+1⟩=some ⟨true,mP.lp,(l.take (k+1)).map ai⟩)->(gg ⟨83001002,σ.next+1⟩=some ⟨true,mP.lp,[]⟩)->(gg ⟨83000001,σ.next⟩=some ⟨true,1,[[.sl (l.map ai)]]⟩)->(σ.next+3<=nx/\∀x:Id,x.bt<σ.next->gg x=σ.get x)->∃m0,m0<(l.length)-k/\∃k:Nat,m0=(l.length)-k/\k<=(l.length)/\e 18=.int .i64 (k:Int)/\gg ⟨83001004,σ.next+1⟩=some ⟨true,6,[[.sl (s.az.aC.map cw),.sl (s.az.ae.map bh),.sl (s.cr.ae.map ai),.int .i64 s.aw,.map ⟨83001001,σ.next+1⟩ mP,.map ⟨83001002,σ.next+1⟩ mP]]⟩/\gg ⟨83001001,σ.next+1⟩=some ⟨true,mP.lp,(l.take k).map ai⟩/\gg ⟨83001002,σ.next+1⟩=some ⟨true,mP.lp,[]⟩/\gg ⟨83000001,σ.next⟩=some ⟨true,1,[[.sl (l.map ai)]]⟩/\(σ.next+3<=nx/\∀x:Id,x.bt<σ.next->gg x=σ.get x):=fun x1 x2 x3 x4 x5 x6=>⟨_,by omega,k+1,rfl,by omega,(by rw[x1,aB (by omega)]),x2,x3,x4,x5,x6⟩
  have eV:k<l.length:=by omega
  have hg:=fj eV
  have hm:=um (ID hA.1.Oi eV)
  have nV:=KF eV
  (try((repeat(revert hN;revert N;apply Pn.out));refine wk (tw @a18 (tw @ag0 (tw @ag1 (tw @ag2 (tw @ag3 (tw @a3 (tw @a5 (tw @NO (tw @a17 (tw @hk (tw @hg (tw @hm (tw @v1 (tw @v2 (tw @v3 (tw @v4 @ai.eq_1)))))))))))))))) ?_;(repeat(refine Pn.mk ?_;intro N hN))))
  refine cE ?_ ?_ ?_ ?_ ?_ (by(try dsimp only);exact⟨by omega,fun x hx=>by
   have h1:=ef (i:=x) (n:=st_a.next) (by omega)
   have h2:=dI (a:=x) (b:=⟨83001001,σ.next+1⟩) (by(try dsimp only);omega)
   have h3:=dq x hx
   simp only[go_sem, ↓reduceIte,Nat.reduceEqDiff,Nat.reduceAdd,Nat.reduceSub,Nat.reduceLeDiff,reduceCtorEq,h1,h2,h3]⟩)
  all_goals simp only[go_sem, ↓reduceIte,Nat.reduceEqDiff,Nat.reduceAdd,Nat.reduceSub,Nat.reduceLeDiff,reduceCtorEq,a18,ag0,ag1,ag2,ag3,a3,a5,NO,a17,ai,v1,v2,v3,v4,nV]
 ·have jy:k=l.length:=by omega
  subst jy
  have nC:l.take l.length=l:=List.take_length
  (try((repeat(revert hN;revert N;apply Pn.out));refine wk (tw @a18 (tw @ag0 (tw @ag1 (tw @ag2 (tw @ag3 (tw @a3 (tw @a5 (tw @NO (tw @a17 (tw @hk (tw @v1 (tw @v2 (tw @v3 @v4))))))))))))) ?_;(repeat(refine Pn.mk ?_;intro N hN))))
  refine aM (fun n env st=>∃j:Nat,n=(l.length)-j/\j<=(l.length)/\env 34=.int .i64 (j:Int)/\(σ.next+3<=st.next/\oq st.get st.next ⟨83001004,σ.next+1⟩ ⟨83001001,σ.next+1⟩ ⟨83001002,σ.next+1⟩ s l/\(∀x:Id,x.bt<σ.next->st.get x=σ.get x)/\∃es:List En,st.get ⟨83001002,σ.next+1⟩=some ⟨true,mP.lp,es.map nU⟩/\vg st.get st.next es (ij s l) (Bt s l j))) (l.length) ⟨0,by omega,by omega,sl (tw @a18 (tw @ag0 (tw @ag1 (tw @ag2 (tw @ag3 (tw @a3 (tw @a5 (tw @NO @a17)))))))),by(try dsimp only);exact⟨by omega,⟨sd @ag0,sd (tw @ag1 @nC),⟨[],sd @ag2,by intro r hr;cases hr⟩,by(try dsimp only);omega,by(try dsimp only);omega,by(try dsimp only);omega,(by intro e;injection e with e1 e2;revert e1;decide),(by intro e;injection e with e1 e2;revert e1;decide),(by intro e;injection e with e1 e2;revert e1;decide)⟩,fun x hx=>by
   have h3:=dq x hx
   simp only[go_sem, ↓reduceIte,Nat.reduceEqDiff,Nat.reduceAdd,Nat.reduceSub,Nat.reduceLeDiff,reduceCtorEq,h3],[],sl @ag2,List.nodup_nil,fun q hq=>.inl ⟨by
    rcases hq with hq|⟨i,hi,_⟩
    ·exact hq.1
    ·exact absurd hi (Nat.not_lt_zero i),fun e he=>by cases he⟩⟩⟩ ?_
  rintro n_b env_b st_b ⟨j,rfl,ble,b34,bI0⟩ eP
  have b5:=eP 5 (by kernel_rfl);have rT:=eP 32 (by kernel_rfl);have sC:=eP 33 (by kernel_rfl)
  simp only[go_sem, ↓reduceIte,Nat.reduceEqDiff,Nat.reduceAdd,Nat.reduceSub,Nat.reduceLeDiff,reduceCtorEq,a18,ag0,ag1,ag2,ag3,a3,a5,NO,a17]at b5 rT sC
  clear eP
  obtain⟨bn,bC,eP,es,bO,bS⟩:=bI0
  by_cases hj:(j:Int)<(l.length:Int)
  ·have eY:∀{e:Env} {gg:Rows} {nx:Nat},(e 34=.int .i64 (IntKind.i64.wrap ((j:Int)+1)))->(σ.next+3<=nx/\oq gg nx ⟨83001004,σ.next+1⟩ ⟨83001001,σ.next+1⟩ ⟨83001002,σ.next+1⟩ s l/\(∀x:Id,x.bt<σ.next->gg x=σ.get x)/\∃es:List En,gg ⟨83001002,σ.next+1⟩=some ⟨true,mP.lp,es.map nU⟩/\vg gg nx es (ij s l) (Bt s l (j+1)))->∃m0,m0<(l.length)-j/\∃j:Nat,m0=(l.length)-j/\j<=(l.length)/\e 34=.int .i64 (j:Int)/\(σ.next+3<=nx/\oq gg nx ⟨83001004,σ.next+1⟩ ⟨83001001,σ.next+1⟩ ⟨83001002,σ.next+1⟩ s l/\(∀x:Id,x.bt<σ.next->gg x=σ.get x)/\∃es:List En,gg ⟨83001002,σ.next+1⟩=some ⟨true,mP.lp,es.map nU⟩/\vg gg nx es (ij s l) (Bt s l j)):=fun x1 x2=>⟨_,by omega,j+1,rfl,by omega,(by rw[x1,aB (by omega)]),x2⟩
   have ll:j<l.length:=by omega
   have hg:=fj ll
   have Ld:=rH (hA.1.pt ll)
   (try((repeat(revert hN;revert N;apply Pn.out));refine wk (tw @b34 (tw @b5 (tw @rT (tw @sC (tw @hj (tw @hg @ai.eq_1)))))) ?_;(repeat(refine Pn.mk ?_;intro N hN))))
   have hG:∀x:Id,x.bt<st_b.next->(bK (bK st_b.get ⟨83009002,st_b.next+1⟩ ⟨true,3,[[.int .i64 0,.int .i64 0,.int .i64 0]]⟩) ⟨83009002,st_b.next+1⟩ ⟨true,3,[[.int .i64 (aO l j).bH.eI,.int .i64 (aO l j).bH.eB,.int .i64 (aO l j).bq]]⟩) x=st_b.get x:=fun x hx=>by
    have h1:=ef hx
    simp only[go_sem, ↓reduceIte,Nat.reduceEqDiff,Nat.reduceAdd,Nat.reduceSub,Nat.reduceLeDiff,reduceCtorEq,h1]
   have Qx:oq (bK (bK st_b.get ⟨83009002,st_b.next+1⟩ ⟨true,3,[[.int .i64 0,.int .i64 0,.int .i64 0]]⟩) ⟨83009002,st_b.next+1⟩ ⟨true,3,[[.int .i64 (aO l j).bH.eI,.int .i64 (aO l j).bH.eB,.int .i64 (aO l j).bq]]⟩) (st_b.next+1+1+1) ⟨83001004,σ.next+1⟩ ⟨83001001,σ.next+1⟩ ⟨83001002,σ.next+1⟩ s l:=bC.frame (by omega) hG
   refine .inr (bL _ _ _ _ _ (fun r σ1 hq=>?_) (x9 (σ:=⟨bK (bK st_b.get ⟨83009002,st_b.next+1⟩ ⟨true,3,[[.int .i64 0,.int .i64 0,.int .i64 0]]⟩) ⟨83009002,st_b.next+1⟩ ⟨true,3,[[.int .i64 (aO l j).bH.eI,.int .i64 (aO l j).bH.eB,.int .i64 (aO l j).bq]]⟩,st_b.next+1+1+1⟩) Qx.OE Qx.cO Qx.TO (Bt s l j) ⟨es,(hG _ (by(try dsimp only);omega)).trans bO,bS.frame (by(try dsimp only);omega) fun x hx _=>hG x hx⟩ hS (gJ.KZ hA) (aO l j).bH Ld.1 Ld.2))
   obtain⟨g1,x1⟩:=σ1
   obtain⟨rfl,hL⟩:=hq
   (try dsimp only at hL)
   have hC2:=Qx.PS hL
   have hLn:=hL.1
   have hLf:=hL.2.1
   obtain⟨es2,R8,JD⟩:=hL.2.2
   (try dsimp only at hLn hLf)
   have hAj:∀q,Bt s l (j+1) q->Bt s l j q∨∃k:Nat,k<4/\q=aW (aO l j).bH k:=fun q hq=>by
    rcases hq with hq|⟨i,hi,hq⟩
    ·exact .inl (.inl hq)
    ·rcases Nat.lt_or_ge i j with h|h
     ·exact .inl (.inr ⟨i,h,hq⟩)
     ·exact .inr (by rw[show i=j by omega]at hq;exact hq)
   refine hN _ _ ?_
   clear hN N
   (try((repeat(revert hN;revert N;apply Pn.out));refine wk (tw @b34 (tw @b5 (tw @rT @sC))) ?_;(repeat(refine Pn.mk ?_;intro N hN))))
   exact eY (sd (tw @b34 (tw @b5 (tw @rT @sC)))) (by(try dsimp only);exact⟨by omega,hC2.frame (by omega) (fun x hx=>rfl),fun x hx=>by
    have h1:=ef (i:=x) (n:=st_b.next) (by omega)
    have h2:=hLf x (by omega) (fun e=>by rw[e]at hx;(try dsimp only at hx);omega)
    have h3:=eP x hx
    simp only[h2]
    simp only[go_sem, ↓reduceIte,Nat.reduceEqDiff,Nat.reduceAdd,Nat.reduceSub,Nat.reduceLeDiff,reduceCtorEq,h1,h3],es2,R8,(JD.frame (by omega) fun x hx _=>rfl).mono hAj⟩)
  ·have gq:j=l.length:=by omega
   subst gq
   (try((repeat(revert hN;revert N;apply Pn.out));refine wk (tw @b34 (tw @b5 (tw @rT (tw @sC @hj)))) ?_;(repeat(refine Pn.mk ?_;intro N hN))))
   exact gQ (.inl rfl) (vs:=[.ptr ⟨83001004,σ.next+1⟩ 0 0]) (sd @Nat.zero_add) ⟨_,_,_,rfl,⟨bC.frame (by(try dsimp only);omega) (fun x hx=>rfl),es,bO,(bS.frame (by(try dsimp only);omega) fun x hx _=>rfl).mono fun q _=>IJ Sc l q⟩,by(try dsimp only);omega,by(try dsimp only);omega,by(try dsimp only);omega,by(try dsimp only);omega,eP⟩
end Go.Proofs.YtgoljkjaameagaaGreat.V

namespace Go.Proofs.YtgoljkjaameagaaGreat.V
open Go.RowKit
variable {P:Program} {w w':World} {D D':Nat->Prop} {ι ι':Names} {hs:Nat} {g:Rows}
def Rq (w:World) (rr:Nat):Prop:=∃m s seen c,w.heap[rr]? =some (.mapIter m s seen c)
structure Lft (P:Program) (w:World) (D:Nat->Prop) (ι:Names) (m:MK) (L:List MapEntry) (left:List (List AV)):Prop where
 len:left.length=L.length
 at_:∀(i:Nat) (cs:List AV),left[i]? =some cs->∃(e:MapEntry) (kv vv:AV),L[i]? =some e/\part m.ka m.ks cs=some kv/\cs[m.ks]? =some vv/\da P w D ι kv e.key/\da P w D ι vv e.val
theorem xL {α β:Type} {l:List α} {k:List β} {i j:Nat} {x:α} (hl:l.length=k.length) (h:(l.eraseIdx i)[j]? =some x):∃q:Nat,l[q]? =some x/\(k.eraseIdx i)[j]? =k[q]? :=by
 rw[List.getElem?_eraseIdx]at h
 split at h
 ·rename_i hj;exact⟨j,h,by rw[List.getElem?_eraseIdx,if_pos hj]⟩
 ·rename_i hj;exact⟨j+1,h,by rw[List.getElem?_eraseIdx,if_neg hj]⟩
theorem mA:∀{l:List MapEntry} {i:Nat} {e:MapEntry},(l.map (·.born)).Nodup->l[i]? =some e->l.filter (fun x=>x.born !=e.born)=l.eraseIdx i
 |x::l,0,e,hn,h=>by
  simp at h;subst h
  obtain⟨h1,h2⟩:=List.nodup_cons.1 (show(x.born::l.map (·.born)).Nodup from hn)
  rw[List.filter_cons,if_neg (by simp),List.eraseIdx_cons_zero]
  refine List.filter_eq_self.2 fun y hy=>?_
  have:y.born≠x.born:=fun hc=>h1 (by rw[<-hc];exact List.mem_map_of_mem hy)
  simpa using this
 |x::l,i+1,e,hn,h=>by
  obtain⟨h1,h2⟩:=List.nodup_cons.1 (show(x.born::l.map (·.born)).Nodup from hn)
  simp only[List.getElem?_cons_succ]at h
  have hx:x.born≠e.born:=fun hc=>h1 (by rw[hc];exact List.mem_map_of_mem (List.mem_of_getElem? h))
  rw[List.filter_cons,if_pos (by simpa using hx),List.eraseIdx_cons_succ,mA h2 h]
theorem CE {es:Array MapEntry} {clock:Nat} {seen:Array Nat} {i:Nat} {e:MapEntry} (hs:Ev es clock) (h:(leftOf es seen).toList[i]? =some e):(leftOf es (seen.push e.born)).toList=(leftOf es seen).toList.eraseIdx i:=by
 have hn:((leftOf es seen).toList.map (·.born)).Nodup:=by
  unfold leftOf
  rw[Array.toList_filter]
  exact((List.filter_sublist (p:=fun e=> !seen.contains e.born) (l:=es.toList)).map MapEntry.born).nodup hs.2
 rw[<-mA hn h]
 unfold leftOf
 rw[Array.toList_filter,Array.toList_filter,List.filter_filter]
 refine List.filter_congr fun x _=>?_
 rw[contains_push]
 cases seen.contains x.born<;>cases hb:(x.born==e.born)<;>simp_all
def CS (P:Program) (nt:Nat) (c:Code) (W:(Ex->Env->ax->Prop)->Env->ax->Prop):Prop:=
 ∀(hs:Nat) (Q:Ex->Env->ax->Prop) (env:Env) (σ:ax) (a:Act) (w:World) (D:Nat->Prop) (ι:Names) (Q':Exit->Act->World->Prop),W Q env σ->St P hs nt D ι env σ a w->tk P hs nt a.defers Q σ.next D ι w Q'->Bn P c Q' a w
theorem uu {α:Type}:∀{l:List α} {i:Nat} {x:α},l[i]? =some x->(x::l.eraseIdx i).Perm l
 |y::l,0,x,h=>by simp at h;subst h;exact List.Perm.refl _
 |y::l,i+1,x,h=>by
  simp only[List.getElem?_cons_succ]at h
  rw[List.eraseIdx_cons_succ]
  exact(List.Perm.swap _ _ _).trans ((uu h).cons _)
end Go.Proofs.YtgoljkjaameagaaGreat.V

namespace Go.Proofs.YtgoljkjaameagaaGreat.V
open Go.RowKit
variable {P:Program} {hs:Nat}
theorem F9 {q n i:Nat} {ops:Array Oper} {Q:Exit->Act->World->Prop} {K K':Act->World->Prop} {a:Act} {w:World} (nB:∀(j:Nat) (o:Oper),ops[j]? =some o->∀c,o.op≠.defer c) (kN:¬LetsOut Q) (hK:∀a w,K a w->K' a w) (h:wpOp P ops Q i K a w):wpOpIn (Fence.wide.inRound q) n P ops Q i K' a w:=by
 unfold wpOp at h
 unfold wpOpIn
 split at h
 ·rename_i ho;simp only[ho];exact hK _ _ h
 ·rename_i o ho
  simp only[ho]
  split at h
  ·rename_i hw
   rw[if_pos hw]
   replace h:=h.resolve_right fun hc=>kN hc.2
   refine⟨fun _ _=>trivial,?_⟩
   rw[Oper.semAt_eq _ _ _ (nB i o ho)]
   unfold Oper.wp at h
   generalize (execOp a.eval o).run P w=r at *
   cases r with
   |ok m w'=>
    cases m<;>simp only[Oper.upon,Oper.uponIn]at h ⊢
    case value=>exact hK _ _ h
    case skip=>exact hK _ _ h
    case defer=>exact hK _ _ h
    case enter f args=>
     refine⟨fun h=>by simp[Fence.wide]at h,CallsIn.inRound q (callsIn_wide.2 (h.mono fun e Jd he=>?_))⟩
     cases e with
     |returned v=>exact hK _ _ he
     |panicked c=>exact he
     |outgrown=>exact he
    case row r args=>exact⟨fun h=>by simp[Fence.wide]at h,fun c cs _=>let ⟨v,Jd,h1,s⟩:=h c cs;⟨v,Jd,hK _ _ h1,stepsIn_wide.2 s⟩⟩
   |halt x w'=>cases x<;>simp only[Oper.upon,Oper.uponIn]at h ⊢;exact h
  ·rename_i hw
   rw[if_neg hw]
   exact⟨fun _ _=>trivial,hK _ _ h⟩
theorem uX {q n:Nat} {md:Region.Mode} {ops:Array Oper} {Q:Exit->Act->World->Prop} (nB:∀(j:Nat) (o:Oper),ops[j]? =some o->∀c,o.op≠.defer c) (kN:¬LetsOut Q):∀(fuel:Nat) (listed:Array Bool) (a:Act) (w:World),wpAny P md ops Q fuel listed a w->wpAnyIn (Fence.wide.inRound q) n P md ops Q fuel listed a w
 |0,_,_,_,h=>h
 |fuel+1,listed,_,_,h=>⟨h.1,fun i hi=>F9 nB kN (fun a w=>uX nB kN fuel _ a w) (h.2 i hi)⟩
def DY:Op->Bool
 | .defer _=>true
 |_=>false
theorem HX {ops:Array Oper} (h:(ops.all fun o=> !DY o.op)=true):∀(j:Nat) (o:Oper),ops[j]? =some o->∀c,o.op≠.defer c:=fun j o hj c hc=>by
 have:=Array.all_eq_true_iff_forall_mem.1 h o (Array.mem_of_getElem? hj)
 rw[hc]at this
 simp[DY]at this
theorem yv (hm:P.follows .mixedOrders=true) {nt site0 id q n:Nat} {ops:Array Oper} {vl:List bf} (h:pW P nt site0 ops true false=some vl) (nB:∀(j:Nat) (o:Oper),ops[j]? =some o->∀c,o.op≠.defer c)
  {K:Env->ax->Prop} {env:Env} {σ:ax} {a:Act} {w:World} {D:Nat->Prop} {ι:Names} {Q:Exit->Act->World->Prop} (hv:wpOps (Sound P) true vl K env σ) (dL:St P hs nt D ι env σ a w)
  (hK:∀ig σ' a' w' D' ι',K ig σ'->Step hs D ι w D' ι' w'->St P hs nt D' ι' ig σ' a' w'->a'.defers=a.defers->Q .normal a' w'):(Code.region id ops true).wpIn (Fence.wide.inRound q) n P Q a w:=by
 have dy:∃hidden rO,allM (lv P ops nt site0 true false (jf ops) hidden) ops.toList 0=some rO/\vl=rO/\nr ops rO (jf ops)=true:=by
  unfold pW at h
  simp only[if_true,Bool.not_true,Bool.false_or]at h
  split at h
  ·rename_i rO h'
   split at h
   ·rename_i tV;simp at h;exact⟨_,rO,h',h.symm,tV⟩
   ·cases h
  ·cases h
 obtain⟨hidden,rO,dy,rfl,tV⟩:=dy
 obtain⟨qf,T0⟩:=dL.drew
 obtain⟨hlen,_⟩:=nj dy
 have kh:vl.length=ops.size:=by rw[hlen];simp
 have B3:=uV (X:=Sound P) (K:=K) (n:=σ.next) tV kh vl 0 (Array.replicate ops.size false) env σ.get (by simp) (by simp) (fun i hi=>by simp[hi]) (by simp[kh]) (fun k i h=>by
  exfalso
  rcases Nat.lt_or_ge k ops.size with hk|hk
  ·simp[hk]at h
  ·simp[Nat.not_lt.2 hk]at h) hv
 rw[kh]at B3
 have hw:=v7 (Q:=fun e a w=>e=.normal/\Q .normal a w) dy ops.size _ env σ.get a w.drew D ι (fun _=>False) B3 qf.Jb qf.used (fun _ h=>h.elim) qf.env qf.size fun jY g1 a1 w1 D1 ι1 U1 hk T S1 Rt E1 wP hd=>⟨rfl,hK jY ⟨g1,σ.next+1⟩ a1 w1 D1 ι1 hk (T0.trans T) ⟨S1,Rt.next,E1,wP⟩ hd⟩
 have e9:=uX (q:=q) (n:=n) (Q:=fun e a w=>e=.normal/\Q .normal a w) nB (by rintro⟨_,_,hc,_⟩;cases hc) ops.size _ a w.drew hw
 refine wpIn_mono (wpIn_region_any (id:=id) hm e9) ?_
 rintro e a w ⟨rfl,h⟩
 exact h
end Go.Proofs.YtgoljkjaameagaaGreat.V

namespace Go.Proofs.YtgoljkjaameagaaGreat.V
open Go.RowKit
variable {P:Program}
theorem MZ (hm:P.follows .mixedOrders=true) {f:Nat} {args:List AV} {vs:Array Value} {w:World} (h:aq P f args (.bool true)) (hA:fb P w (fun b=>b<w.heap.size) (fun _=>none) args vs):
  Calls P f vs w fun e w'=>e=.returned (.bool true)/\Below w.heap.size w w':=by
 have hs:=iA hm (h 0) w.heap.size (fun b=>b<w.heap.size) (fun _=>none) w vs ⟨Nat.le_refl _,fun _ h=>h,fun id r h=>(by cases h),fun id kJ r r' B B' h=>(by cases h)⟩ (fun id h=>absurd rfl h) hA
 refine hs.mono ?_
 rintro e w' ⟨r,g',n',D',ι',u,rfl,⟨r',hz,rfl⟩,dL,hsim,_,_,gK⟩
 have hr:r=.bool true:=by
  cases r<;>rw[fV]at hz<;>simp_all
  all_goals (repeat' (split at hz))<;>simp_all
 subst hr
 exact⟨by rw[eT gK],dL.below⟩
theorem kz {xs:List AV} {w:World} {D:Nat->Prop} {ι:Names} {a:AV} {v:Value} {vs:Array Value} (h:jC P w D a v) (k:fb P w D ι xs vs):fb P w D ι (a::xs) (#[v]++vs):=
 nK (xs:=[a]) ⟨rfl,fun j b hj=>by
  cases j with
  |zero=>simp at hj;subst hj;exact⟨v,rfl,.eO _ _ h⟩
  |succ j=>simp at hj⟩ k
end Go.Proofs.YtgoljkjaameagaaGreat.V
