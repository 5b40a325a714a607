/- The reference's networks: one is made. -/
import Derived.Test.YtgoelphibofcmaaGreatTiC
import Derived.Test.YtgoelphibofcmaaGreatTiB
import Derived.Shelf.SlSortCmp.WholeK
import Derived.Shelf.SlSortCmp.NoneTotal
import Derived.Ground.SlsfProg
import Derived.Test.YtgoelphibofcmaaGreatProg
set_option linter.unusedVariables false
set_option linter.unusedSimpArgs false
set_option maxRecDepth 100000
set_option maxHeartbeats 16000000
namespace Go.Proofs.YtgoelphibofcmaaGreat.V
open Go.RowKit
attribute [local irreducible] dI wpOps ib Call
attribute [local go_sem] aJ gu eW gR gQ cE upd cw K.av cY AV.cells AV.cell rowOf rowsOf part ld rowAt bB cr dY eG jq bP dq eT gP fx dE eK dn dm eu ew bU bp db bR de dc eI eL eJ da cm dp eH bQ aO di cI jo bE cU bV aY du aV ea AV.undef bG bJ eA eE ei ep cJ eR eV cG eO eM dh dj List.getD_cons_zero List.getD_cons_succ List.getD_nil List.all_cons List.all_nil Bool.and_true Bool.true_and Bool.and_self Bool.not_true Bool.not_false Option.map_some Option.map_none Option.bind_some Option.bind_none List.length_cons List.length_nil List.take_succ_cons List.take_zero List.take_nil List.drop_succ_cons List.drop_zero List.drop_nil List.head?_cons List.map_cons List.map_nil List.getElem?_cons_zero List.getElem?_cons_succ List.cons_append List.nil_append List.append_nil List.length_map List.set_cons_zero List.set_cons_succ Nat.reduceMul eq_self Int.toNat_natCast Int.natCast_nonneg and_self true_and and_true decide_true decide_false Bool.false_eq_true Nat.zero_add Nat.add_zero List.contains_cons List.contains_nil Bool.or_false Bool.false_or beq_self_eq_true Nat.reduceBEq ne_eq not_true_eq_false not_false_eq_true Id.mk.injEq false_and and_false Nat.reduceLT Int.reduceLE Int.reduceLT Int.reduceToNat Int.reduceNeg Int.reduceAdd Nat.le_refl List.length_append beq_true beq_false Bool.not_eq_eq_eq_not or_false false_or eh ao aq aK br bI cC bc bz aQ bt cX cj
theorem HI (cnt:Nat) (hn:cnt<=1048576) (bs:List PB) (ok:mK cnt bs) (ml:bs.length<=1048576) (σ:ar):
  Call Tryz.prog 237 [.int .i64 cnt,.sl (bs.map ay)] σ fun r σ'=>∃X A F,r=.ptr X 0 0/\σ.next<=X.aW/\nz cnt bs (fun _=>0) X A F σ'.get σ'.next:=by
 refine Gs LV rfl fun hl=>?_
 try simp only[q]
 clear hl
 have ju:(0:Int)<=(cnt:Int):=by omega
 have pc:(cnt:Int)<=((16777216:Nat):Int):=by omega
 have OS:(0:Int)<=(bs.length:Int):=by omega
 have K4:(bs.length:Int)<=((16777216:Nat):Int):=by omega
 have hz:List.replicate bs.length [AV.int .i64 0]=dD (fun _=>0) bs.length:=by
  refine List.ext_getElem? fun i=>?_
  by_cases h:i<bs.length
  ·rw[dz h,List.getElem?_replicate,if_pos h];rfl
  ·rw[List.getElem?_eq_none (by simp;omega),List.getElem?_eq_none (by rw[cZ];omega)]
 (try((repeat(revert hN;revert N;apply Pn.out));refine wk (tw @ju (tw @pc (tw @OS (tw @K4 (tw @Int.le_refl @hz))))) ?_;(repeat(refine Pn.mk ?_;intro N hN))))
 obtain⟨X,hX⟩:∃X:Id,X=⟨237001003,σ.next+1⟩:=⟨_,rfl⟩
 obtain⟨A,hA⟩:∃X:Id,X=⟨237002002,σ.next+1+1⟩:=⟨_,rfl⟩
 obtain⟨F,hF⟩:∃X:Id,X=⟨237003003,σ.next+1+1+1⟩:=⟨_,rfl⟩
 have hXA:X.aW<A.aW:=by rw[hX,hA];(try dsimp only);omega
 have hAF:A.aW<F.aW:=by rw[hA,hF];(try dsimp only);omega
 have hXs:σ.next<=X.aW:=by rw[hX];(try dsimp only);omega
 refine aH (fun n env st=>∃j:Nat,n=(bs.length)-j/\j<=(bs.length)/\env 6=.int .i64 (j:Int)/\env 5=(.ptr X 0 0)/\st.get X=some ⟨true,4,[aT cnt bs A F]⟩/\st.get F=some ⟨true,1,dD (fun _=>0) bs.length⟩/\(qb A F.aW (kX cnt bs j) st.get st.next/\F.aW<st.next)) (bs.length) ⟨0,by omega,by omega,by(try simp only[go_sem, ↓reduceIte,Nat.reduceEqDiff,Nat.reduceAdd,Nat.reduceSub,Nat.reduceLeDiff,reduceCtorEq,hX,hF,hA,aT,hz]);try rfl,by(try simp only[go_sem, ↓reduceIte,Nat.reduceEqDiff,Nat.reduceAdd,Nat.reduceSub,Nat.reduceLeDiff,reduceCtorEq,hX,hF,hA,aT,hz]);try rfl,by(try simp only[go_sem, ↓reduceIte,Nat.reduceEqDiff,Nat.reduceAdd,Nat.reduceSub,Nat.reduceLeDiff,reduceCtorEq,hX,hF,hA,aT,hz]);try rfl,by(try simp only[go_sem, ↓reduceIte,Nat.reduceEqDiff,Nat.reduceAdd,Nat.reduceSub,Nat.reduceLeDiff,reduceCtorEq,hX,hF,hA,aT,hz]);try rfl,⟨⟨List.replicate cnt [.cu],[],by rw[hA];(simp only[go_sem, ↓reduceIte,Nat.reduceEqDiff,Nat.reduceAdd,Nat.reduceSub,Nat.reduceLeDiff,reduceCtorEq])<;>rfl,by rw[Fj];exact xM _ _,List.nodup_nil,fun i hi=>by cases hi⟩,by rw[hF];(try dsimp only);omega⟩⟩ ?_
 rintro n_a env_a st_a ⟨j,rfl,ale,a6,a5,ag0,ag1,nf⟩ dt
 have a0:=dt 0 (by kernel_rfl);have a1:=dt 1 (by kernel_rfl)
 simp only[go_sem, ↓reduceIte,Nat.reduceEqDiff,Nat.reduceAdd,Nat.reduceSub,Nat.reduceLeDiff,reduceCtorEq,hX,hF,hA,aT,hz]at a0 a1
 clear dt
 obtain⟨⟨rows,ids,ag,hR,oy,nu⟩,hFn⟩:=nf
 have x1:=cQ hXA
 have x2:=cQ hAF
 have x3:=cQ (a:=X) (b:=F) (by omega)
 have vX:=dv (i:=X) (n:=st_a.next) (by omega)
 have vA:=dv (i:=A) (n:=st_a.next) (by omega)
 have vF:=dv (i:=F) (n:=st_a.next) (by omega)
 by_cases hj:(j:Int)<(bs.length:Int)
 ·have bY:∀{e:Env} {gg:Rows} {nx:Nat},(e 6=.int .i64 (IntKind.i64.wrap ((j:Int)+1)))->(e 5=(.ptr X 0 0))->(gg X=some ⟨true,4,[aT cnt bs A F]⟩)->(gg F=some ⟨true,1,dD (fun _=>0) bs.length⟩)->(qb A F.aW (kX cnt bs (j+1)) gg nx/\F.aW<nx)->∃m0,m0<(bs.length)-j/\∃j:Nat,m0=(bs.length)-j/\j<=(bs.length)/\e 6=.int .i64 (j:Int)/\e 5=(.ptr X 0 0)/\gg X=some ⟨true,4,[aT cnt bs A F]⟩/\gg F=some ⟨true,1,dD (fun _=>0) bs.length⟩/\(qb A F.aW (kX cnt bs j) gg nx/\F.aW<nx):=fun x1 x2 x3 x4 x5=>⟨_,by omega,j+1,rfl,by omega,(by rw[x1,ax (by omega)]),x2,x3,x4,x5⟩
  have nq:j<bs.length:=by omega
  have iC:=tg nq
  obtain⟨ha1,OT,fY⟩:=ok j nq
  have gi:((bD bs j).a:Int)<(cnt:Int):=by omega
  have ft:((bD bs j).b:Int)<(cnt:Int):=by omega
  have iR:=Fi (m:=j) ha1 OT fY
  have e1:=qv bs j (bD bs j).a
  have e2:=qv bs j (bD bs j).b
  have Pb:(wE cnt bs j)[(bD bs j).b]? =some (iJ bs j (bD bs j).b):=AF OT fY
  have Pa:(kX cnt bs j)[(bD bs j).a]? =some (iJ bs j (bD bs j).a):=by simp[kX,ha1]
  have Ru:wE cnt bs j=(kX cnt bs j).set (bD bs j).a (iJ bs j (bD bs j).a++[j]):=rfl
  have I3:(wE cnt bs j).length=cnt:=by rw[Ru,List.length_set,jd]
  have iS:=hR.len
  rw[jd]at iS
  obtain⟨cs7,ja,Hg,Hs⟩:=Eg (A:=A) (K:=⟨237007022,st_a.next+1⟩) (nx:=st_a.next+1+1) (j:=j) hR oy nu (by omega) Pa (by(try dsimp only);omega) (by(try dsimp only);omega) hFn
  rw[<-Ru]at Hs
  obtain⟨c7,rfl⟩:∃c,cs7=[c]:=by
   rcases Hg with⟨_,h⟩|⟨id,h,_⟩<;>exact⟨_,h⟩
  generalize iJ bs j (bD bs j).a=La at *
  generalize iJ bs j (bD bs j).b=Lb at *
  generalize bD bs j=b at *
  generalize wE cnt bs j=LA at *
  clear Ru
  (try((repeat(revert hN;revert N;apply Pn.out));refine wk (tw @a6 (tw @a5 (tw @ag0 (tw @ag1 (tw @a0 (tw @a1 (tw @hj (tw @iC (tw @ay.eq_1 (tw @ag (tw @ja (tw @gi (tw @ft (tw @iS (tw @x1 (tw @x2 (tw @x3 (tw @vX (tw @vA (tw @vF @aT.eq_1)))))))))))))))))))) ?_;(repeat(refine Pn.mk ?_;intro N hN))))
  refine Dt (fun e s=>e 0=.int .i64 cnt/\e 1=.sl (bs.map ay)/\e 5=.ptr X 0 0/\e 6=.int .i64 j/\s.get X=some ⟨true,4,[aT cnt bs A F]⟩/\s.get F=some ⟨true,1,dD (fun _=>0) bs.length⟩/\qb A F.aW LA s.get s.next/\F.aW<s.next) ?_ ?_
  ·rintro e1 s1 ⟨m0,m1,m5,m6,mX,mF,⟨rows1,ids1,mg,mR,mnd,mver⟩,mn⟩
   refine hN _ _ ?_
   clear hN N
   have iT:=mR.len
   rw[I3]at iT
   have wX:=dv (i:=X) (n:=s1.next) (by omega)
   have wA:=dv (i:=A) (n:=s1.next) (by omega)
   have wF:=dv (i:=F) (n:=s1.next) (by omega)
   obtain⟨cs8,jb,Hh,Ht⟩:=Eg (A:=A) (K:=⟨237008022,s1.next⟩) (nx:=s1.next+1) (j:=j) mR mnd mver (by omega) Pb (by(try dsimp only);omega) (by(try dsimp only);omega) mn
   rw[iR]at Ht
   obtain⟨c8,rfl⟩:∃c,cs8=[c]:=by
    rcases Hh with⟨_,h⟩|⟨id,h,_⟩<;>exact⟨_,h⟩
   (try((repeat(revert hN;revert N;apply Pn.out));refine wk (tw @m0 (tw @m1 (tw @m5 (tw @m6 (tw @mX (tw @mF (tw @hj (tw @iC (tw @ay.eq_1 (tw @mg (tw @jb (tw @gi (tw @ft (tw @iT (tw @x1 (tw @x2 (tw @x3 (tw @wX (tw @wA (tw @wF @aT.eq_1)))))))))))))))))))) ?_;(repeat(refine Pn.mk ?_;intro N hN))))
   refine KJ (fun e s=>e 0=.int .i64 cnt/\e 1=.sl (bs.map ay)/\e 5=.ptr X 0 0/\e 6=.int .i64 j/\s.get X=some ⟨true,4,[aT cnt bs A F]⟩/\s.get F=some ⟨true,1,dD (fun _=>0) bs.length⟩/\qb A F.aW (kX cnt bs (j+1)) s.get s.next/\F.aW<s.next) ?_ ?_
   ·rintro e2 s2 ⟨p0,p1,p5,p6,pX,pF,pL,pn⟩
    simp only[du,aV]
    refine hN _ _ ?_
    clear hN N
    (try((repeat(revert hN;revert N;apply Pn.out));refine wk (tw @p0 (tw @p1 (tw @p5 @p6))) ?_;(repeat(refine Pn.mk ?_;intro N hN))))
    refine bY ?_ ?_ ?_ ?_ (⟨by obtain⟨r,i,q1,q2,q3,q4⟩:=pL;exact⟨r,i,sd @q1,q2,q3,fun x hx=>by have:=q4 x hx;(try dsimp only);omega⟩,by(try dsimp only);omega⟩)
    all_goals simp only[go_sem, ↓reduceIte,Nat.reduceEqDiff,Nat.reduceAdd,Nat.reduceSub,Nat.reduceLeDiff,reduceCtorEq,p0,p1,p5,p6,pX,pF]
   ·intro N hN
    rcases Hh with⟨RJ,Al⟩|⟨id,Al,hLp,hid,JN,xg⟩
    ·simp only[List.cons.injEq,and_true]at Al
     subst Al
     subst RJ
     refine eX ?_ ?_<;>(try((repeat(revert hN;revert N;apply Pn.out));refine wk (tw @m0 (tw @m1 (tw @m5 (tw @m6 (tw @mX (tw @mF (tw @hj (tw @iC (tw @ay.eq_1 (tw @mg (tw @jb (tw @gi (tw @ft (tw @iT (tw @x1 (tw @x2 (tw @x3 (tw @wX (tw @wA (tw @wF @aT.eq_1)))))))))))))))))))) ?_;(repeat(refine Pn.mk ?_;intro N hN))))<;>(try refine eX ?_ ?_)<;>(try((repeat(revert hN;revert N;apply Pn.out));refine wk (tw @m0 (tw @m1 (tw @m5 (tw @m6 (tw @mX (tw @mF (tw @hj (tw @iC (tw @ay.eq_1 (tw @mg (tw @jb (tw @gi (tw @ft (tw @iT (tw @x1 (tw @x2 (tw @x3 (tw @wX (tw @wA (tw @wF @aT.eq_1)))))))))))))))))))) ?_;(repeat(refine Pn.mk ?_;intro N hN))))<;>(try refine eX ?_ ?_)<;>(try((repeat(revert hN;revert N;apply Pn.out));refine wk (tw @m0 (tw @m1 (tw @m5 (tw @m6 (tw @mX (tw @mF (tw @hj (tw @iC (tw @ay.eq_1 (tw @mg (tw @jb (tw @gi (tw @ft (tw @iT (tw @x1 (tw @x2 (tw @x3 (tw @wX (tw @wA (tw @wF @aT.eq_1)))))))))))))))))))) ?_;(repeat(refine Pn.mk ?_;intro N hN))))<;>(try refine eX ?_ ?_)<;>(try((repeat(revert hN;revert N;apply Pn.out));refine wk (tw @m0 (tw @m1 (tw @m5 (tw @m6 (tw @mX (tw @mF (tw @hj (tw @iC (tw @ay.eq_1 (tw @mg (tw @jb (tw @gi (tw @ft (tw @iT (tw @x1 (tw @x2 (tw @x3 (tw @wX (tw @wA (tw @wF @aT.eq_1)))))))))))))))))))) ?_;(repeat(refine Pn.mk ?_;intro N hN))))<;>(try refine eX ?_ ?_)<;>(try((repeat(revert hN;revert N;apply Pn.out));refine wk (tw @m0 (tw @m1 (tw @m5 (tw @m6 (tw @mX (tw @mF (tw @hj (tw @iC (tw @ay.eq_1 (tw @mg (tw @jb (tw @gi (tw @ft (tw @iT (tw @x1 (tw @x2 (tw @x3 (tw @wX (tw @wA (tw @wF @aT.eq_1)))))))))))))))))))) ?_;(repeat(refine Pn.mk ?_;intro N hN))))<;>(try refine eX ?_ ?_)<;>(try((repeat(revert hN;revert N;apply Pn.out));refine wk (tw @m0 (tw @m1 (tw @m5 (tw @m6 (tw @mX (tw @mF (tw @hj (tw @iC (tw @ay.eq_1 (tw @mg (tw @jb (tw @gi (tw @ft (tw @iT (tw @x1 (tw @x2 (tw @x3 (tw @wX (tw @wA (tw @wF @aT.eq_1)))))))))))))))))))) ?_;(repeat(refine Pn.mk ?_;intro N hN))))
     all_goals
      refine⟨by simp only[go_sem, ↓reduceIte,Nat.reduceEqDiff,Nat.reduceAdd,Nat.reduceSub,Nat.reduceLeDiff,reduceCtorEq,m0,m1,m5,m6,mX,mF,hj,iC,ay,mg,jb,gi,ft,iT,x1,x2,x3,wX,wA,wF,aT],by simp only[go_sem, ↓reduceIte,Nat.reduceEqDiff,Nat.reduceAdd,Nat.reduceSub,Nat.reduceLeDiff,reduceCtorEq,m0,m1,m5,m6,mX,mF,hj,iC,ay,mg,jb,gi,ft,iT,x1,x2,x3,wX,wA,wF,aT],by simp only[go_sem, ↓reduceIte,Nat.reduceEqDiff,Nat.reduceAdd,Nat.reduceSub,Nat.reduceLeDiff,reduceCtorEq,m0,m1,m5,m6,mX,mF,hj,iC,ay,mg,jb,gi,ft,iT,x1,x2,x3,wX,wA,wF,aT],by simp only[go_sem, ↓reduceIte,Nat.reduceEqDiff,Nat.reduceAdd,Nat.reduceSub,Nat.reduceLeDiff,reduceCtorEq,m0,m1,m5,m6,mX,mF,hj,iC,ay,mg,jb,gi,ft,iT,x1,x2,x3,wX,wA,wF,aT],by simp only[go_sem, ↓reduceIte,Nat.reduceEqDiff,Nat.reduceAdd,Nat.reduceSub,Nat.reduceLeDiff,reduceCtorEq,m0,m1,m5,m6,mX,mF,hj,iC,ay,mg,jb,gi,ft,iT,x1,x2,x3,wX,wA,wF,aT],by simp only[go_sem, ↓reduceIte,Nat.reduceEqDiff,Nat.reduceAdd,Nat.reduceSub,Nat.reduceLeDiff,reduceCtorEq,m0,m1,m5,m6,mX,mF,hj,iC,ay,mg,jb,gi,ft,iT,x1,x2,x3,wX,wA,wF,aT],Ht _ (by simp only[go_sem, ↓reduceIte,Nat.reduceEqDiff,Nat.reduceAdd,Nat.reduceSub,Nat.reduceLeDiff,reduceCtorEq,m0,m1,m5,m6,mX,mF,hj,iC,ay,mg,jb,gi,ft,iT,x1,x2,x3,wX,wA,wF,aT,List.length_nil]) (by simp only[go_sem, ↓reduceIte,Nat.reduceEqDiff,Nat.reduceAdd,Nat.reduceSub,Nat.reduceLeDiff,reduceCtorEq,m0,m1,m5,m6,mX,mF,hj,iC,ay,mg,jb,gi,ft,iT,x1,x2,x3,wX,wA,wF,aT,List.map_nil,List.nil_append]) (fun i hi MB fA=>?_),by(try dsimp only);omega⟩
      clear fA
      simp only[go_sem, ↓reduceIte,Nat.reduceEqDiff,Nat.reduceAdd,Nat.reduceSub,Nat.reduceLeDiff,reduceCtorEq,wX,wA,wF,dv hi,MB]
    ·simp only[List.cons.injEq,and_true]at Al
     subst Al
     have qS:=dv JN
     have y1:=cQ (a:=A) (b:=id) (by omega)
     have y2:=cQ (a:=F) (b:=id) xg
     have y3:=cQ (a:=X) (b:=id) (by omega)
     have e3:Lb.length+1<=16777216:=by omega
     have z1:(Lb.map eN).length=Lb.length:=by simp
     refine eX ?_ ?_<;>(try((repeat(revert hN;revert N;apply Pn.out));refine wk (tw @m0 (tw @m1 (tw @m5 (tw @m6 (tw @mX (tw @mF (tw @hj (tw @iC (tw @ay.eq_1 (tw @mg (tw @jb (tw @gi (tw @ft (tw @iT (tw @x1 (tw @x2 (tw @x3 (tw @wX (tw @wA (tw @wF (tw @aT.eq_1 (tw @hid (tw @qS (tw @y1 (tw @y2 (tw @y3 (tw @e3 @z1))))))))))))))))))))))))))) ?_;(repeat(refine Pn.mk ?_;intro N hN))))<;>(try refine eX ?_ ?_)<;>(try((repeat(revert hN;revert N;apply Pn.out));refine wk (tw @m0 (tw @m1 (tw @m5 (tw @m6 (tw @mX (tw @mF (tw @hj (tw @iC (tw @ay.eq_1 (tw @mg (tw @jb (tw @gi (tw @ft (tw @iT (tw @x1 (tw @x2 (tw @x3 (tw @wX (tw @wA (tw @wF (tw @aT.eq_1 (tw @hid (tw @qS (tw @y1 (tw @y2 (tw @y3 (tw @e3 @z1))))))))))))))))))))))))))) ?_;(repeat(refine Pn.mk ?_;intro N hN))))<;>(try refine eX ?_ ?_)<;>(try((repeat(revert hN;revert N;apply Pn.out));refine wk (tw @m0 (tw @m1 (tw @m5 (tw @m6 (tw @mX (tw @mF (tw @hj (tw @iC (tw @ay.eq_1 (tw @mg (tw @jb (tw @gi (tw @ft (tw @iT (tw @x1 (tw @x2 (tw @x3 (tw @wX (tw @wA (tw @wF (tw @aT.eq_1 (tw @hid (tw @qS (tw @y1 (tw @y2 (tw @y3 (tw @e3 @z1))))))))))))))))))))))))))) ?_;(repeat(refine Pn.mk ?_;intro N hN))))<;>(try refine eX ?_ ?_)<;>(try((repeat(revert hN;revert N;apply Pn.out));refine wk (tw @m0 (tw @m1 (tw @m5 (tw @m6 (tw @mX (tw @mF (tw @hj (tw @iC (tw @ay.eq_1 (tw @mg (tw @jb (tw @gi (tw @ft (tw @iT (tw @x1 (tw @x2 (tw @x3 (tw @wX (tw @wA (tw @wF (tw @aT.eq_1 (tw @hid (tw @qS (tw @y1 (tw @y2 (tw @y3 (tw @e3 @z1))))))))))))))))))))))))))) ?_;(repeat(refine Pn.mk ?_;intro N hN))))<;>(try refine eX ?_ ?_)<;>(try((repeat(revert hN;revert N;apply Pn.out));refine wk (tw @m0 (tw @m1 (tw @m5 (tw @m6 (tw @mX (tw @mF (tw @hj (tw @iC (tw @ay.eq_1 (tw @mg (tw @jb (tw @gi (tw @ft (tw @iT (tw @x1 (tw @x2 (tw @x3 (tw @wX (tw @wA (tw @wF (tw @aT.eq_1 (tw @hid (tw @qS (tw @y1 (tw @y2 (tw @y3 (tw @e3 @z1))))))))))))))))))))))))))) ?_;(repeat(refine Pn.mk ?_;intro N hN))))<;>(try refine eX ?_ ?_)<;>(try((repeat(revert hN;revert N;apply Pn.out));refine wk (tw @m0 (tw @m1 (tw @m5 (tw @m6 (tw @mX (tw @mF (tw @hj (tw @iC (tw @ay.eq_1 (tw @mg (tw @jb (tw @gi (tw @ft (tw @iT (tw @x1 (tw @x2 (tw @x3 (tw @wX (tw @wA (tw @wF (tw @aT.eq_1 (tw @hid (tw @qS (tw @y1 (tw @y2 (tw @y3 (tw @e3 @z1))))))))))))))))))))))))))) ?_;(repeat(refine Pn.mk ?_;intro N hN))))
     all_goals
      refine⟨by simp only[go_sem, ↓reduceIte,Nat.reduceEqDiff,Nat.reduceAdd,Nat.reduceSub,Nat.reduceLeDiff,reduceCtorEq,m0,m1,m5,m6,mX,mF,hj,iC,ay,mg,jb,gi,ft,iT,x1,x2,x3,wX,wA,wF,aT,hid,qS,y1,y2,y3,e3,z1],by simp only[go_sem, ↓reduceIte,Nat.reduceEqDiff,Nat.reduceAdd,Nat.reduceSub,Nat.reduceLeDiff,reduceCtorEq,m0,m1,m5,m6,mX,mF,hj,iC,ay,mg,jb,gi,ft,iT,x1,x2,x3,wX,wA,wF,aT,hid,qS,y1,y2,y3,e3,z1],by simp only[go_sem, ↓reduceIte,Nat.reduceEqDiff,Nat.reduceAdd,Nat.reduceSub,Nat.reduceLeDiff,reduceCtorEq,m0,m1,m5,m6,mX,mF,hj,iC,ay,mg,jb,gi,ft,iT,x1,x2,x3,wX,wA,wF,aT,hid,qS,y1,y2,y3,e3,z1],by simp only[go_sem, ↓reduceIte,Nat.reduceEqDiff,Nat.reduceAdd,Nat.reduceSub,Nat.reduceLeDiff,reduceCtorEq,m0,m1,m5,m6,mX,mF,hj,iC,ay,mg,jb,gi,ft,iT,x1,x2,x3,wX,wA,wF,aT,hid,qS,y1,y2,y3,e3,z1],by simp only[go_sem, ↓reduceIte,Nat.reduceEqDiff,Nat.reduceAdd,Nat.reduceSub,Nat.reduceLeDiff,reduceCtorEq,m0,m1,m5,m6,mX,mF,hj,iC,ay,mg,jb,gi,ft,iT,x1,x2,x3,wX,wA,wF,aT,hid,qS,y1,y2,y3,e3,z1],by simp only[go_sem, ↓reduceIte,Nat.reduceEqDiff,Nat.reduceAdd,Nat.reduceSub,Nat.reduceLeDiff,reduceCtorEq,m0,m1,m5,m6,mX,mF,hj,iC,ay,mg,jb,gi,ft,iT,x1,x2,x3,wX,wA,wF,aT,hid,qS,y1,y2,y3,e3,z1],Ht _ (by simp only[go_sem, ↓reduceIte,Nat.reduceEqDiff,Nat.reduceAdd,Nat.reduceSub,Nat.reduceLeDiff,reduceCtorEq,m0,m1,m5,m6,mX,mF,hj,iC,ay,mg,jb,gi,ft,iT,x1,x2,x3,wX,wA,wF,aT,hid,qS,y1,y2,y3,e3,z1,List.length_nil]) (by simp only[go_sem, ↓reduceIte,Nat.reduceEqDiff,Nat.reduceAdd,Nat.reduceSub,Nat.reduceLeDiff,reduceCtorEq,m0,m1,m5,m6,mX,mF,hj,iC,ay,mg,jb,gi,ft,iT,x1,x2,x3,wX,wA,wF,aT,hid,qS,y1,y2,y3,e3,z1,List.map_nil,List.nil_append]) (fun i hi MB fA=>?_),by(try dsimp only);omega⟩
      have fY:=fA id rfl
      simp only[go_sem, ↓reduceIte,Nat.reduceEqDiff,Nat.reduceAdd,Nat.reduceSub,Nat.reduceLeDiff,reduceCtorEq,wX,wA,wF,dv hi,MB,fY]
  ·intro N hN
   rcases Hg with⟨RJ,Al⟩|⟨id,Al,hLp,hid,JN,xg⟩
   ·simp only[List.cons.injEq,and_true]at Al
    subst Al
    subst RJ
    refine eX ?_ ?_<;>(try((repeat(revert hN;revert N;apply Pn.out));refine wk (tw @a6 (tw @a5 (tw @ag0 (tw @ag1 (tw @a0 (tw @a1 (tw @hj (tw @iC (tw @ay.eq_1 (tw @ag (tw @ja (tw @gi (tw @ft (tw @iS (tw @x1 (tw @x2 (tw @x3 (tw @vX (tw @vA (tw @vF @aT.eq_1)))))))))))))))))))) ?_;(repeat(refine Pn.mk ?_;intro N hN))))<;>(try refine eX ?_ ?_)<;>(try((repeat(revert hN;revert N;apply Pn.out));refine wk (tw @a6 (tw @a5 (tw @ag0 (tw @ag1 (tw @a0 (tw @a1 (tw @hj (tw @iC (tw @ay.eq_1 (tw @ag (tw @ja (tw @gi (tw @ft (tw @iS (tw @x1 (tw @x2 (tw @x3 (tw @vX (tw @vA (tw @vF @aT.eq_1)))))))))))))))))))) ?_;(repeat(refine Pn.mk ?_;intro N hN))))<;>(try refine eX ?_ ?_)<;>(try((repeat(revert hN;revert N;apply Pn.out));refine wk (tw @a6 (tw @a5 (tw @ag0 (tw @ag1 (tw @a0 (tw @a1 (tw @hj (tw @iC (tw @ay.eq_1 (tw @ag (tw @ja (tw @gi (tw @ft (tw @iS (tw @x1 (tw @x2 (tw @x3 (tw @vX (tw @vA (tw @vF @aT.eq_1)))))))))))))))))))) ?_;(repeat(refine Pn.mk ?_;intro N hN))))<;>(try refine eX ?_ ?_)<;>(try((repeat(revert hN;revert N;apply Pn.out));refine wk (tw @a6 (tw @a5 (tw @ag0 (tw @ag1 (tw @a0 (tw @a1 (tw @hj (tw @iC (tw @ay.eq_1 (tw @ag (tw @ja (tw @gi (tw @ft (tw @iS (tw @x1 (tw @x2 (tw @x3 (tw @vX (tw @vA (tw @vF @aT.eq_1)))))))))))))))))))) ?_;(repeat(refine Pn.mk ?_;intro N hN))))<;>(try refine eX ?_ ?_)<;>(try((repeat(revert hN;revert N;apply Pn.out));refine wk (tw @a6 (tw @a5 (tw @ag0 (tw @ag1 (tw @a0 (tw @a1 (tw @hj (tw @iC (tw @ay.eq_1 (tw @ag (tw @ja (tw @gi (tw @ft (tw @iS (tw @x1 (tw @x2 (tw @x3 (tw @vX (tw @vA (tw @vF @aT.eq_1)))))))))))))))))))) ?_;(repeat(refine Pn.mk ?_;intro N hN))))<;>(try refine eX ?_ ?_)<;>(try((repeat(revert hN;revert N;apply Pn.out));refine wk (tw @a6 (tw @a5 (tw @ag0 (tw @ag1 (tw @a0 (tw @a1 (tw @hj (tw @iC (tw @ay.eq_1 (tw @ag (tw @ja (tw @gi (tw @ft (tw @iS (tw @x1 (tw @x2 (tw @x3 (tw @vX (tw @vA (tw @vF @aT.eq_1)))))))))))))))))))) ?_;(repeat(refine Pn.mk ?_;intro N hN))))
    all_goals
     refine⟨by simp only[go_sem, ↓reduceIte,Nat.reduceEqDiff,Nat.reduceAdd,Nat.reduceSub,Nat.reduceLeDiff,reduceCtorEq,a6,a5,ag0,ag1,a0,a1,hj,iC,ay,ag,ja,gi,ft,iS,x1,x2,x3,vX,vA,vF,aT],by simp only[go_sem, ↓reduceIte,Nat.reduceEqDiff,Nat.reduceAdd,Nat.reduceSub,Nat.reduceLeDiff,reduceCtorEq,a6,a5,ag0,ag1,a0,a1,hj,iC,ay,ag,ja,gi,ft,iS,x1,x2,x3,vX,vA,vF,aT],by simp only[go_sem, ↓reduceIte,Nat.reduceEqDiff,Nat.reduceAdd,Nat.reduceSub,Nat.reduceLeDiff,reduceCtorEq,a6,a5,ag0,ag1,a0,a1,hj,iC,ay,ag,ja,gi,ft,iS,x1,x2,x3,vX,vA,vF,aT],by simp only[go_sem, ↓reduceIte,Nat.reduceEqDiff,Nat.reduceAdd,Nat.reduceSub,Nat.reduceLeDiff,reduceCtorEq,a6,a5,ag0,ag1,a0,a1,hj,iC,ay,ag,ja,gi,ft,iS,x1,x2,x3,vX,vA,vF,aT],by simp only[go_sem, ↓reduceIte,Nat.reduceEqDiff,Nat.reduceAdd,Nat.reduceSub,Nat.reduceLeDiff,reduceCtorEq,a6,a5,ag0,ag1,a0,a1,hj,iC,ay,ag,ja,gi,ft,iS,x1,x2,x3,vX,vA,vF,aT],by simp only[go_sem, ↓reduceIte,Nat.reduceEqDiff,Nat.reduceAdd,Nat.reduceSub,Nat.reduceLeDiff,reduceCtorEq,a6,a5,ag0,ag1,a0,a1,hj,iC,ay,ag,ja,gi,ft,iS,x1,x2,x3,vX,vA,vF,aT],Hs _ (by simp only[go_sem, ↓reduceIte,Nat.reduceEqDiff,Nat.reduceAdd,Nat.reduceSub,Nat.reduceLeDiff,reduceCtorEq,a6,a5,ag0,ag1,a0,a1,hj,iC,ay,ag,ja,gi,ft,iS,x1,x2,x3,vX,vA,vF,aT,List.length_nil]) (by simp only[go_sem, ↓reduceIte,Nat.reduceEqDiff,Nat.reduceAdd,Nat.reduceSub,Nat.reduceLeDiff,reduceCtorEq,a6,a5,ag0,ag1,a0,a1,hj,iC,ay,ag,ja,gi,ft,iS,x1,x2,x3,vX,vA,vF,aT,List.map_nil,List.nil_append]) (fun i hi MB fA=>?_),by(try dsimp only);omega⟩
     clear fA
     simp only[go_sem, ↓reduceIte,Nat.reduceEqDiff,Nat.reduceAdd,Nat.reduceSub,Nat.reduceLeDiff,reduceCtorEq,vX,vA,vF,dv hi,MB]
   ·simp only[List.cons.injEq,and_true]at Al
    subst Al
    have qS:=dv JN
    have y1:=cQ (a:=A) (b:=id) (by omega)
    have y2:=cQ (a:=F) (b:=id) xg
    have y3:=cQ (a:=X) (b:=id) (by omega)
    have e3:La.length+1<=16777216:=by omega
    have z1:(La.map eN).length=La.length:=by simp
    refine eX ?_ ?_<;>(try((repeat(revert hN;revert N;apply Pn.out));refine wk (tw @a6 (tw @a5 (tw @ag0 (tw @ag1 (tw @a0 (tw @a1 (tw @hj (tw @iC (tw @ay.eq_1 (tw @ag (tw @ja (tw @gi (tw @ft (tw @iS (tw @x1 (tw @x2 (tw @x3 (tw @vX (tw @vA (tw @vF (tw @aT.eq_1 (tw @hid (tw @qS (tw @y1 (tw @y2 (tw @y3 (tw @e3 @z1))))))))))))))))))))))))))) ?_;(repeat(refine Pn.mk ?_;intro N hN))))<;>(try refine eX ?_ ?_)<;>(try((repeat(revert hN;revert N;apply Pn.out));refine wk (tw @a6 (tw @a5 (tw @ag0 (tw @ag1 (tw @a0 (tw @a1 (tw @hj (tw @iC (tw @ay.eq_1 (tw @ag (tw @ja (tw @gi (tw @ft (tw @iS (tw @x1 (tw @x2 (tw @x3 (tw @vX (tw @vA (tw @vF (tw @aT.eq_1 (tw @hid (tw @qS (tw @y1 (tw @y2 (tw @y3 (tw @e3 @z1))))))))))))))))))))))))))) ?_;(repeat(refine Pn.mk ?_;intro N hN))))<;>(try refine eX ?_ ?_)<;>(try((repeat(revert hN;revert N;apply Pn.out));refine wk (tw @a6 (tw @a5 (tw @ag0 (tw @ag1 (tw @a0 (tw @a1 (tw @hj (tw @iC (tw @ay.eq_1 (tw @ag (tw @ja (tw @gi (tw @ft (tw @iS (tw @x1 (tw @x2 (tw @x3 (tw @vX (tw @vA (tw @vF (tw @aT.eq_1 (tw @hid (tw @qS (tw @y1 (tw @y2 (tw @y3 (tw @e3 @z1))))))))))))))))))))))))))) ?_;(repeat(refine Pn.mk ?_;intro N hN))))<;>(try refine eX ?_ ?_)<;>(try((repeat(revert hN;revert N;apply Pn.out));refine wk (tw @a6 (tw @a5 (tw @ag0 (tw @ag1 (tw @a0 (tw @a1 (tw @hj (tw @iC (tw @ay.eq_1 (tw @ag (tw @ja (tw @gi (tw @ft (tw @iS (tw @x1 (tw @x2 (tw @x3 (tw @vX (tw @vA (tw @vF (tw @aT.eq_1 (tw @hid (tw @qS (tw @y1 (tw @y2 (tw @y3 (tw @e3 @z1))))))))))))))))))))))))))) ?_;(repeat(refine Pn.mk ?_;intro N hN))))<;>(try refine eX ?_ ?_)<;>(try((repeat(revert hN;revert N;apply Pn.out));refine wk (tw @a6 (tw @a5 (tw @ag0 (tw @ag1 (tw @a0 (tw @a1 (tw @hj (tw @iC (tw @ay.eq_1 (tw @ag (tw @ja (tw @gi (tw @ft (tw @iS (tw @x1 (tw @x2 (tw @x3 (tw @vX (tw @vA (tw @vF (tw @aT.eq_1 (tw @hid (tw @qS (tw @y1 (tw @y2 (tw @y3 (tw @e3 @z1))))))))))))))))))))))))))) ?_;(repeat(refine Pn.mk ?_;intro N hN))))<;>(try refine eX ?_ ?_)<;>(try((repeat(revert hN;revert N;apply Pn.out));refine wk (tw @a6 (tw @a5 (tw @ag0 (tw @ag1 (tw @a0 (tw @a1 (tw @hj (tw @iC (tw @ay.eq_1 (tw @ag (tw @ja (tw @gi (tw @ft (tw @iS (tw @x1 (tw @x2 (tw @x3 (tw @vX (tw @vA (tw @vF (tw @aT.eq_1 (tw @hid (tw @qS (tw @y1 (tw @y2 (tw @y3 (tw @e3 @z1))))))))))))))))))))))))))) ?_;(repeat(refine Pn.mk ?_;intro N hN))))
    all_goals
     refine⟨by simp only[go_sem, ↓reduceIte,Nat.reduceEqDiff,Nat.reduceAdd,Nat.reduceSub,Nat.reduceLeDiff,reduceCtorEq,a6,a5,ag0,ag1,a0,a1,hj,iC,ay,ag,ja,gi,ft,iS,x1,x2,x3,vX,vA,vF,aT,hid,qS,y1,y2,y3,e3,z1],by simp only[go_sem, ↓reduceIte,Nat.reduceEqDiff,Nat.reduceAdd,Nat.reduceSub,Nat.reduceLeDiff,reduceCtorEq,a6,a5,ag0,ag1,a0,a1,hj,iC,ay,ag,ja,gi,ft,iS,x1,x2,x3,vX,vA,vF,aT,hid,qS,y1,y2,y3,e3,z1],by simp only[go_sem, ↓reduceIte,Nat.reduceEqDiff,Nat.reduceAdd,Nat.reduceSub,Nat.reduceLeDiff,reduceCtorEq,a6,a5,ag0,ag1,a0,a1,hj,iC,ay,ag,ja,gi,ft,iS,x1,x2,x3,vX,vA,vF,aT,hid,qS,y1,y2,y3,e3,z1],by simp only[go_sem, ↓reduceIte,Nat.reduceEqDiff,Nat.reduceAdd,Nat.reduceSub,Nat.reduceLeDiff,reduceCtorEq,a6,a5,ag0,ag1,a0,a1,hj,iC,ay,ag,ja,gi,ft,iS,x1,x2,x3,vX,vA,vF,aT,hid,qS,y1,y2,y3,e3,z1],by simp only[go_sem, ↓reduceIte,Nat.reduceEqDiff,Nat.reduceAdd,Nat.reduceSub,Nat.reduceLeDiff,reduceCtorEq,a6,a5,ag0,ag1,a0,a1,hj,iC,ay,ag,ja,gi,ft,iS,x1,x2,x3,vX,vA,vF,aT,hid,qS,y1,y2,y3,e3,z1],by simp only[go_sem, ↓reduceIte,Nat.reduceEqDiff,Nat.reduceAdd,Nat.reduceSub,Nat.reduceLeDiff,reduceCtorEq,a6,a5,ag0,ag1,a0,a1,hj,iC,ay,ag,ja,gi,ft,iS,x1,x2,x3,vX,vA,vF,aT,hid,qS,y1,y2,y3,e3,z1],Hs _ (by simp only[go_sem, ↓reduceIte,Nat.reduceEqDiff,Nat.reduceAdd,Nat.reduceSub,Nat.reduceLeDiff,reduceCtorEq,a6,a5,ag0,ag1,a0,a1,hj,iC,ay,ag,ja,gi,ft,iS,x1,x2,x3,vX,vA,vF,aT,hid,qS,y1,y2,y3,e3,z1,List.length_nil]) (by simp only[go_sem, ↓reduceIte,Nat.reduceEqDiff,Nat.reduceAdd,Nat.reduceSub,Nat.reduceLeDiff,reduceCtorEq,a6,a5,ag0,ag1,a0,a1,hj,iC,ay,ag,ja,gi,ft,iS,x1,x2,x3,vX,vA,vF,aT,hid,qS,y1,y2,y3,e3,z1,List.map_nil,List.nil_append]) (fun i hi MB fA=>?_),by(try dsimp only);omega⟩
     have fY:=fA id rfl
     simp only[go_sem, ↓reduceIte,Nat.reduceEqDiff,Nat.reduceAdd,Nat.reduceSub,Nat.reduceLeDiff,reduceCtorEq,vX,vA,vF,dv hi,MB,fY]
 ·have gm:j=bs.length:=by omega
  subst gm
  (try((repeat(revert hN;revert N;apply Pn.out));refine wk (tw @a6 (tw @a5 (tw @ag0 (tw @ag1 (tw @a0 (tw @a1 @hj)))))) ?_;(repeat(refine Pn.mk ?_;intro N hN))))
  exact gD (.inl rfl) (by simp only[eY,gO,go_sem, ↓reduceIte,Nat.reduceEqDiff,Nat.reduceAdd,Nat.reduceSub,Nat.reduceLeDiff,reduceCtorEq];rfl) ⟨X,A,F,rfl,hXs,⟨ag0,⟨rows,ids,ag,hR,oy,fun x hx=>by have:=nu x hx;(try dsimp only);omega⟩,ag1,hXA,hAF,by(try dsimp only);omega⟩⟩
end Go.Proofs.YtgoelphibofcmaaGreat.V

namespace Go.Proofs.YtgoelphibofcmaaGreat.V
open Go.RowKit
attribute [local irreducible] dI wpOps ib Call
attribute [local go_sem] aJ gu eW gR gQ cE upd cw K.av cY AV.cells AV.cell rowOf rowsOf part ld rowAt bB cr dY eG jq bP dq eT gP fx dE eK dn dm eu ew bU bp db bR de dc eI eL eJ da cm dp eH bQ aO di cI jo bE cU bV aY du aV ea AV.undef bG bJ eA eE ei ep cJ eR eV cG eO eM dh dj List.getD_cons_zero List.getD_cons_succ List.getD_nil List.all_cons List.all_nil Bool.and_true Bool.true_and Bool.and_self Bool.not_true Bool.not_false Option.map_some Option.map_none Option.bind_some Option.bind_none List.length_cons List.length_nil List.take_succ_cons List.take_zero List.take_nil List.drop_succ_cons List.drop_zero List.drop_nil List.head?_cons List.map_cons List.map_nil List.getElem?_cons_zero List.getElem?_cons_succ List.cons_append List.nil_append List.append_nil List.length_map List.set_cons_zero List.set_cons_succ Nat.reduceMul eq_self Int.toNat_natCast Int.natCast_nonneg and_self true_and and_true decide_true decide_false Bool.false_eq_true Nat.zero_add Nat.add_zero List.contains_cons List.contains_nil Bool.or_false Bool.false_or beq_self_eq_true Nat.reduceBEq ne_eq not_true_eq_false not_false_eq_true Id.mk.injEq false_and and_false Nat.reduceLT Int.reduceLE Int.reduceLT Int.reduceToNat Int.reduceNeg Int.reduceAdd Nat.le_refl List.length_append beq_true beq_false Bool.not_eq_eq_eq_not or_false false_or eh ao aq aK br bI cC bc bz aQ bt cX cj
theorem qb.frame {A:Id} {lo nx tF:Nat} {L:List (List Nat)} {g g':Rows} (h:qb A lo L g nx) (hA:A.aW<nx) (hf:∀i:Id,i.aW<nx->lo<i.aW∨i=A->g' i=g i) (hn:nx<=tF):qb A lo L g' tF:=by
 obtain⟨rows,ids,h1,h2,h3,h4⟩:=h
 refine⟨rows,ids,(hf A hA (.inr rfl)).trans h1,h2.frame Lr fun i hi=>hf i (h4 i hi).2 (.inl (h4 i hi).1),h3,fun i hi=>?_⟩
 have:=h4 i hi;omega
theorem nz.frame {cnt:Nat} {bs:List PB} {f:Nat->Int} {X A F:Id} {g g':Rows} {nx tF:Nat} (h:nz cnt bs f X A F g nx) (hf:∀i:Id,i.aW<nx->g' i=g i) (hn:nx<=tF):nz cnt bs f X A F g' tF:=by
 have h1:=h.xa;have h2:=h.af;have h3:=h.fn
 exact⟨(hf X (by omega)).trans h.x,h.a.frame (by omega) (fun i hi _=>hf i hi) hn,(hf F h3).trans h.f,h1,h2,by omega⟩
theorem nz.OM {cnt:Nat} {bs:List PB} {f f':Nat->Int} {X A F:Id} {g g':Rows} {nx tF:Nat} (h:nz cnt bs f X A F g nx) (hF:g' F=some ⟨true,1,dD f' bs.length⟩) (hf:∀i:Id,i.aW<nx->(i=F)=False->g' i=g i) (hn:nx<=tF):nz cnt bs f' X A F g' tF:=by
 have h1:=h.xa;have h2:=h.af;have h3:=h.fn
 refine⟨(hf X (by omega) (cQ (by omega)).1).trans h.x,h.a.frame (by omega) (fun i hi jV=>hf i hi ?_) hn,hF,h1,h2,by omega⟩
 rcases jV with jV|rfl
 ·exact(cQ jV).2
 ·exact(cQ h2).1
theorem Nc (cnt:Nat) (bs:List PB) (f:Nat->Int) (hs:Small bs f) (e v:Nat) (he:e<bs.length) (X A F:Id) (σ:ar) (nx:Nat) (hS:nz cnt bs f X A F σ.get nx) (hn:nx<=σ.next):
  Call Tryz.prog 261 [.ptr X 0 0,.int .i64 v,.int .i64 e] σ fun r σ'=>nz cnt bs (sM bs f e v) X A F σ'.get nx/\σ.next<=σ'.next/\∀i:Id,(i=F)=False->σ'.get i=σ.get i:=by
 refine gT ej rfl fun hl=>?_
 clear hl
 have hX:=hS.x
 have hF:=hS.f
 have hb:=tg he
 have R0:=dz (f:=f) he
 have tl:=cZ f bs.length
 obtain⟨⟨s0,s1⟩,s2,s3⟩:=hs e he
 have hei:(e:Int)<(bs.length:Int):=by omega
 have w1:IntKind.i64.wrap (f e+1)=f e+1:=aZ (by omega)
 have w2:IntKind.i64.wrap (f e-1)=f e+-1:=by rw[aZ (by omega)];omega
 rw[bq]at R0
 unfold sM
 by_cases h:(bD bs e).a=v
 ·have ev:(dD f bs.length).set e (bq (f e+1))=dD (fun j=>f j+if j=e then(if (bD bs e).a=v then 1 else -1)else 0) bs.length:=kK he (by rw[if_pos rfl,if_pos h]) fun i _ hi=>by rw[if_neg hi,Int.add_zero]
  rw[bq]at ev
  generalize Qz:bD bs e=b at *
  have hd:decide ((b.a:Int)=(v:Int))=true:=decide_eq_true (by rw[h])
  (try((repeat(revert hN;revert N;apply Pn.out));refine wk (tw @hX (tw @hF (tw @hb (tw @R0 (tw @tl (tw @hei (tw @w1 (tw @ev (tw @hd (tw @ay.eq_1 @aT.eq_1)))))))))) ?_;(repeat(refine Pn.mk ?_;intro N hN))))
  exact gD (.inr rfl) (vs:=[]) rfl ⟨hS.OM (sd @Nat.zero_add) (fun i hi fY=>sd @fY) (Nat.le_refl _),by(try dsimp only);omega,fun i fY=>sd @fY⟩
 ·have ev:(dD f bs.length).set e (bq (f e+-1))=dD (fun j=>f j+if j=e then(if (bD bs e).a=v then 1 else -1)else 0) bs.length:=kK he (by rw[if_pos rfl,if_neg h]) fun i _ hi=>by rw[if_neg hi,Int.add_zero]
  rw[bq]at ev
  generalize Qz:bD bs e=b at *
  have hd:decide ((b.a:Int)=(v:Int))=false:=decide_eq_false fun hc=>h (by omega)
  (try((repeat(revert hN;revert N;apply Pn.out));refine wk (tw @hX (tw @hF (tw @hb (tw @R0 (tw @tl (tw @hei (tw @w2 (tw @ev (tw @hd (tw @ay.eq_1 @aT.eq_1)))))))))) ?_;(repeat(refine Pn.mk ?_;intro N hN))))
  exact gD (.inr rfl) (vs:=[]) rfl ⟨hS.OM (sd @Nat.zero_add) (fun i hi fY=>sd @fY) (Nat.le_refl _),by(try dsimp only);omega,fun i fY=>sd @fY⟩
structure nA (bs:List PB) (out:Nat->Int) (f f':Nat->Int) (x v:Nat):Prop where
 le:∀i,i<bs.length->f' i<=(bD bs i).s/\-(bD bs i).s<=f' i
 cut:∀S:Nat->Bool,EN S bs f'=EN S bs f+bi (S x)-bi (S v)
 BG:∀e,e<bs.length->out (bD bs e).a<=out v->out (bD bs e).b<=out v->f' e=f e
section
variable {cnt:Nat} {bs:List PB} {out:Nat->Int} {f f':Nat->Int} {x v y:Nat}
theorem nA.start (h:∀i,i<bs.length->f i<=(bD bs i).s/\-(bD bs i).s<=f i):nA bs out f f x x:=⟨h,fun S=>by omega,fun _ _ _ _=>rfl⟩
theorem nA.step (h:nA bs out f f' x v) {e:Nat} (he:e<bs.length) (hi:Dv bs e v) (hr:0<fu bs f' e v) (hd:out (bh bs e v)=out v-1):nA bs out f (sM bs f' e v) x (bh bs e v):=by
 refine⟨fun i lv=>?_,fun S=>?_,fun i lv ha hb=>?_⟩
 ·have h1:=h.le i lv
  unfold sM
  by_cases DX:i=e
  ·subst DX
   rw[if_pos rfl]
   unfold fu at hr
   split at hr<;>rename_i hc
   ·rw[if_pos hc];omega
   ·rw[if_neg hc];omega
  ·rw[if_neg DX];omega
 ·rw[EO he hi,h.cut S];omega
 ·have DX:i≠e:=by
   rintro rfl
   rcases hi with hi|hi
   ·rw[hi]at ha;omega
   ·rw[hi]at hb;omega
  unfold sM
  rw[if_neg DX,Int.add_zero]
  exact h.BG i lv (by omega) (by omega)
theorem nA.goes (h:nA bs out f f' x v) (hs:xT cnt bs f y out) (hv:v<cnt) (h0:0<out v):∃e∈iJ bs bs.length v,0<fu bs f' e v/\out (bh bs e v)=out v-1:=by
 obtain⟨e,h1,h2,h3,h4⟩:=hs.down v hv h0
 refine⟨e,qw.2 ⟨h1,h2⟩,?_,h4⟩
 have hf:f' e=f e:=by
  refine h.BG e h1 ?_ ?_
  ·unfold bh at h4
   split at h4
   ·rename_i ha;rw[ha];exact Int.le_refl _
   ·omega
  ·unfold bh at h4
   rcases h2 with h2|h2
   ·rw[if_pos h2]at h4;omega
   ·rw[h2];exact Int.le_refl _
 unfold fu at h3 ⊢
 rw[hf];exact h3
theorem nA.done {val:Int} (h:nA bs out f f' x y) (hf:jK bs f x y val):jK bs f' x y (val+1):=
 ⟨h.le,fun S hx hy=>by rw[h.cut S,hf.cut S hx hy,hx,hy];simp[bi]⟩
theorem Dd {val:Int} (hs:xT cnt bs f y out) (ok:mK cnt bs) (hf:jK bs f x y val) (hx:out x<0):∃S:Nat->Bool,S x=true/\S y=false/\val=iP S bs:=by
 refine⟨fun v=>decide (out v<0),decide_eq_true hx,decide_eq_false (by rw[hs.first];omega),hf.full (decide_eq_true hx) (decide_eq_false (by rw[hs.first];omega)) fun i hi sE=>⟨fun h1 h2 hr=>?_,fun h1 h2 hr=>?_⟩⟩
 ·have Mc:=of_decide_eq_true h1
  have By:=of_decide_eq_false h2
  have:=hs.shut i (bD bs i).a hi (.inl rfl) (by unfold bh;rw[if_pos rfl];omega) hr
  omega
 ·have Mc:=of_decide_eq_true h1
  have By:=of_decide_eq_false h2
  have:=hs.shut i (bD bs i).b hi (.inr rfl) (by unfold bh;rw[if_neg sE];omega) hr
  omega
end
end Go.Proofs.YtgoelphibofcmaaGreat.V

namespace Go.Proofs.YtgoelphibofcmaaGreat.V
open Go.RowKit
attribute [local irreducible] dI wpOps ib Call
attribute [local go_sem] aJ gu eW gR gQ cE upd cw K.av cY AV.cells AV.cell rowOf rowsOf part ld rowAt bB cr dY eG jq bP dq eT gP fx dE eK dn dm eu ew bU bp db bR de dc eI eL eJ da cm dp eH bQ aO di cI jo bE cU bV aY du aV ea AV.undef bG bJ eA eE ei ep cJ eR eV cG eO eM dh dj List.getD_cons_zero List.getD_cons_succ List.getD_nil List.all_cons List.all_nil Bool.and_true Bool.true_and Bool.and_self Bool.not_true Bool.not_false Option.map_some Option.map_none Option.bind_some Option.bind_none List.length_cons List.length_nil List.take_succ_cons List.take_zero List.take_nil List.drop_succ_cons List.drop_zero List.drop_nil List.head?_cons List.map_cons List.map_nil List.getElem?_cons_zero List.getElem?_cons_succ List.cons_append List.nil_append List.append_nil List.length_map List.set_cons_zero List.set_cons_succ Nat.reduceMul eq_self Int.toNat_natCast Int.natCast_nonneg and_self true_and and_true decide_true decide_false Bool.false_eq_true Nat.zero_add Nat.add_zero List.contains_cons List.contains_nil Bool.or_false Bool.false_or beq_self_eq_true Nat.reduceBEq ne_eq not_true_eq_false not_false_eq_true Id.mk.injEq false_and and_false Nat.reduceLT Int.reduceLE Int.reduceLT Int.reduceToNat Int.reduceNeg Int.reduceAdd Nat.le_refl List.length_append beq_true beq_false Bool.not_eq_eq_eq_not or_false false_or eh ao aq aK br bI cC bc bz aQ bt cX cj
theorem vG {bs:List PB} {f:Nat->Int} (cK:∀e,e<bs.length->0<=(bD bs e).s/\(bD bs e).s<=4) (h:∀i,i<bs.length->f i<=(bD bs i).s/\-(bD bs i).s<=f i):Small bs f:=fun e he=>by
 have:=cK e he;have:=h e he;omega
theorem qb.at_ {A:Id} {lo nx v:Nat} {L:List (List Nat)} {l:List Nat} {g:Rows} (h:qb A lo L g nx) (hv:L[v]? =some l) (hl:0<l.length):∃(rows:List (List AV)) (id:Id),g A=some ⟨true,1,rows⟩/\rows.length=L.length/\rows[v]? =some [.own id 0 l.length]/\g id=some ⟨true,1,l.map eN⟩/\lo<id.aW/\id.aW<nx:=by
 obtain⟨rows,ids,h1,h2,h3,h4⟩:=h
 have hk:v<L.length:=(List.getElem?_eq_some_iff.1 hv).1
 obtain⟨cs,ic,cR,hR,Pd⟩:=h2.at_ v hk
 rw[ko hv hk]at hR
 rcases hR with⟨h5,_⟩|⟨id,rfl,_,h6,rfl⟩
 ·subst h5;simp at hl
 ·have:=h4 id (Pd id (by simp))
  exact⟨rows,id,h1,h2.len,cR,h6,this.1,this.2⟩
theorem Mb (cnt:Nat) (hn:cnt<=1048576) (bs:List PB) (ok:mK cnt bs) (ml:bs.length<=1048576) (cK:∀e,e<bs.length->0<=(bD bs e).s/\(bD bs e).s<=4) (f:Nat->Int) (x y:Nat) (hx:x<cnt) (hy:y<cnt) (Lm:x≠y) (val:Int) (hf:jK bs f x y val)
  (X A F:Id) (σ:ar) (nb:Nat) (hS:nz cnt bs f X A F σ.get nb) (iR:nb<=σ.next):
  Call Tryz.prog 238 [.ptr X 0 0,.int .i64 x,.int .i64 y] σ fun r σ'=>∃b f',r=.bool b/\nz cnt bs f' X A F σ'.get nb/\σ.next<=σ'.next/\(∀i:Id,i.aW<nb->(i=F)=False->σ'.get i=σ.get i)/\
   (b=false->f'=f/\∃S:Nat->Bool,S x=true/\S y=false/\val=iP S bs)/\(b=true->jK bs f' x y (val+1)):=by
 refine gT ej rfl fun hl=>?_
 clear hl
 have BF:(x:Int)<(cnt:Int):=by omega
 have hz:∀(g:Rows),(∀i:Id,i.aW<nb->g i=σ.get i)->cH (eh g) 6 [.ptr X 0 0,.int .i64 (y:Int)]=some [.bK (fH cnt bs f),.int .i64 y]:=fun g hg=>by
  have:=(hS.frame hg (Nat.le_refl _)).fz
  simp only[ao,aq,this,aK,Option.map_some]
 (try((repeat(revert hN;revert N;apply Pn.out));refine wk @Nat.zero_add ?_;(repeat(refine Pn.mk ?_;intro N hN))))
 refine .inr (aU _ _ _ _ _ (fun r σ1 hq=>?_) ((En cnt hn bs ok ml f (vG cK hf.le) y hy).x mixed (hz _ (fun i hi=>rfl))))
 obtain⟨⟨out,rfl,MS⟩,rfl⟩:=hq
 refine hN _ _ ?_
 clear hN N
 have QS:=dz (f:=out) hx
 have tl:=cZ out cnt
 by_cases jP:out x<0
 ·(try((repeat(revert hN;revert N;apply Pn.out));refine wk (tw @QS (tw @jP (tw @BF (tw @tl @bq.eq_1)))) ?_;(repeat(refine Pn.mk ?_;intro N hN))))
  exact gD (.inl rfl) (vs:=[.bool false]) (sd @Nat.zero_add) ⟨false,f,rfl,hS.frame (fun i hi=>rfl) (Nat.le_refl _),by(try dsimp only);omega,fun i _ _=>rfl,fun _=>⟨rfl,Dd MS ok hf jP⟩,fun h=>by cases h⟩
 (try((repeat(revert hN;revert N;apply Pn.out));refine wk (tw @QS (tw @jP (tw @BF (tw @tl @bq.eq_1)))) ?_;(repeat(refine Pn.mk ?_;intro N hN))))
 refine aH (fun m env st=>∃(v:Nat) (f':Nat->Int),m=(out v).toNat/\v<cnt/\0<=out v/\env 8=.int .i64 (v:Int)/\nA bs out f f' x v/\nz cnt bs f' X A F st.get nb/\(∀i:Id,i.aW<nb->(i=F)=False->st.get i=σ.get i)/\σ.next<=st.next) (out x).toNat ⟨x,f,rfl,hx,by omega,by(simp only[go_sem, ↓reduceIte,Nat.reduceEqDiff,Nat.reduceAdd,Nat.reduceSub,Nat.reduceLeDiff,reduceCtorEq]),nA.start hf.le,hS.frame (fun i hi=>rfl) (Nat.le_refl _),fun i _ _=>rfl,by(try dsimp only);omega⟩ ?_
 rintro m env_b st_b ⟨v,f',rfl,hv,pK,b8,hW,hN1,jl,hle⟩ ec
 have b0:=ec 0 (by kernel_rfl)
 have b2:=ec 2 (by kernel_rfl)
 have b7:=ec 7 (by kernel_rfl)
 simp only[go_sem, ↓reduceIte,Nat.reduceEqDiff,Nat.reduceAdd,Nat.reduceSub,Nat.reduceLeDiff,reduceCtorEq]at b0 b2 b7
 clear ec
 by_cases QY:v=y
 ·have hd:decide ((v:Int)=(y:Int))=true:=decide_eq_true (by rw[QY])
  subst QY
  (try((repeat(revert hN;revert N;apply Pn.out));refine wk (tw @b0 (tw @b2 (tw @b7 (tw @b8 @hd)))) ?_;(repeat(refine Pn.mk ?_;intro N hN))))
  exact gD (.inl rfl) (vs:=[.bool true]) (sd @Nat.zero_add) ⟨true,f',rfl,hN1,by(try dsimp only);omega,jl,fun h=>(by cases h),fun _=>hW.done hf⟩
 have hd:decide ((v:Int)=(y:Int))=false:=decide_eq_false fun h=>QY (by omega)
 have q9:0<out v:=by
  have:=MS.zero v hv
  rcases Int.lt_or_eq_of_le pK with h|h
  ·exact h
  ·exact absurd (this h.symm) QY
 have K8:=hW.goes MS hv q9
 have hIm:∀ed∈iJ bs bs.length v,ed<bs.length/\Dv bs ed v:=fun ed h=>qw.1 h
 have hIL:(kX cnt bs bs.length)[v]? =some (iJ bs bs.length v):=by simp[kX,hv]
 have hIl:=qv bs bs.length v
 generalize iJ bs bs.length v=I at *
 have hIp:0<I.length:=by
  obtain⟨ed,h,_⟩:=K8
  exact List.length_pos_of_mem h
 obtain⟨rows,id,QF,tx,lg,hid,hid1,hid2⟩:=hN1.a.at_ hIL hIp
 rw[jd]at tx
 have hgX:=hN1.x
 have CA:(v:Int)<(cnt:Int):=by omega
 have lO:=dz (f:=out) hv
 have rL:IntKind.i64.wrap (out v-1)=out v-1:=aZ (by have:=MS.lo v hv;omega)
 have pH:(I.map eN).length=I.length:=by simp
 have JY:=vG cK hW.le
 have kf:∀(g:Rows),(∀i:Id,i.aW<nb->g i=st_b.get i)->∀ed:Nat,cH (eh g) 6 [.ptr X 0 0,.int .i64 (v:Int),.int .i64 (ed:Int)]=some [.bK (fH cnt bs f'),.int .i64 v,.int .i64 ed]:=fun g hg ed=>by
  have:=(hN1.frame hg (Nat.le_refl _)).fz
  simp only[ao,aq,this,aK,Option.map_some]
 rw[bq]at lO
 (try((repeat(revert hN;revert N;apply Pn.out));refine wk (tw @b0 (tw @b2 (tw @b7 (tw @b8 @hd)))) ?_;(repeat(refine Pn.mk ?_;intro N hN))))
 refine aH (fun n env st=>∃k:Nat,n=(I.length)-k/\k<=(I.length)/\env 11=.int .i64 (k:Int)/\(∃(sL DF:Int),env 9=.int .i64 sL/\env 10=.int .i64 DF/\((sL<0/\∀z,z<k->¬(0<fu bs f' (I.getD z 0) v/\out (bh bs (I.getD z 0) v)=out v-1))∨∃ed:Nat,ed∈I/\DF=(ed:Int)/\sL=(bh bs ed v:Int)/\0<fu bs f' ed v/\out (bh bs ed v)=out v-1))/\((∀i:Id,st.get i=st_b.get i)/\st_b.next<=st.next)) (I.length) ⟨0,by omega,by omega,sl (tw @b0 (tw @b2 (tw @b7 @b8))),⟨-1,0,by(simp only[go_sem, ↓reduceIte,Nat.reduceEqDiff,Nat.reduceAdd,Nat.reduceSub,Nat.reduceLeDiff,reduceCtorEq]),by(simp only[go_sem, ↓reduceIte,Nat.reduceEqDiff,Nat.reduceAdd,Nat.reduceSub,Nat.reduceLeDiff,reduceCtorEq]),.inl ⟨by omega,fun z hz=>by omega⟩⟩,⟨fun i=>rfl,by(try dsimp only);omega⟩⟩ ?_
 rintro n_c env_c st_c ⟨k,rfl,cle,nj,cI0,cI1⟩ cfr
 have c0:=cfr 0 (by kernel_rfl);have c2:=cfr 2 (by kernel_rfl);have c7:=cfr 7 (by kernel_rfl);have c8:=cfr 8 (by kernel_rfl)
 simp only[go_sem, ↓reduceIte,Nat.reduceEqDiff,Nat.reduceAdd,Nat.reduceSub,Nat.reduceLeDiff,reduceCtorEq,b0,b2,b7,b8]at c0 c2 c7 c8
 clear cfr
 obtain⟨sL,DF,c9,jj,Hf⟩:=cI0
 obtain⟨lP,Mx⟩:=cI1
 have Ct:=(lP X).trans hgX
 have Cs:=(lP A).trans QF
 have yq:=(lP id).trans hid
 by_cases hk:(k:Int)<(I.length:Int)
 ·have gM:∀{e:Env} {gg:Rows} {nx:Nat},(e 11=.int .i64 (IntKind.i64.wrap ((k:Int)+1)))->(∃(sL DF:Int),e 9=.int .i64 sL/\e 10=.int .i64 DF/\((sL<0/\∀z,z<(k+1)->¬(0<fu bs f' (I.getD z 0) v/\out (bh bs (I.getD z 0) v)=out v-1))∨∃ed:Nat,ed∈I/\DF=(ed:Int)/\sL=(bh bs ed v:Int)/\0<fu bs f' ed v/\out (bh bs ed v)=out v-1))->((∀i:Id,gg i=st_b.get i)/\st_b.next<=nx)->∃m0,m0<(I.length)-k/\∃k:Nat,m0=(I.length)-k/\k<=(I.length)/\e 11=.int .i64 (k:Int)/\(∃(sL DF:Int),e 9=.int .i64 sL/\e 10=.int .i64 DF/\((sL<0/\∀z,z<k->¬(0<fu bs f' (I.getD z 0) v/\out (bh bs (I.getD z 0) v)=out v-1))∨∃ed:Nat,ed∈I/\DF=(ed:Int)/\sL=(bh bs ed v:Int)/\0<fu bs f' ed v/\out (bh bs ed v)=out v-1))/\((∀i:Id,gg i=st_b.get i)/\st_b.next<=nx):=fun x1 x2 x3=>⟨_,by omega,k+1,rfl,by omega,(by rw[x1,ax (by omega)]),x2,x3⟩
  have eZ:k<I.length:=by omega
  have eo:(I.map eN)[k]? =some (eN (I.getD k 0)):=getD_map eN eZ
  have rJ:I.getD k 0∈I:=by rw[List.getD_eq_getElem?_getD,List.getElem?_eq_getElem eZ];exact List.getElem_mem eZ
  obtain⟨he,oW⟩:=hIm _ rJ
  have MP:=Ij cnt bs f' JY (I.getD k 0) v he
  have v7:=kf st_c.get (fun i _=>lP i) (I.getD k 0)
  have hq:=nW ok (v:=v) he
  have Oa:=dz (f:=out) hq
  obtain⟨ed,hed⟩:∃ed,ed=I.getD k 0:=⟨_,rfl⟩
  rw[<-hed]at eo he oW MP v7 hq Oa rJ
  rw[bq]at Oa
  rw[eN]at eo
  (try((repeat(revert hN;revert N;apply Pn.out));refine wk (tw @nj (tw @c0 (tw @c2 (tw @c7 (tw @c8 (tw @c9 (tw @jj (tw @hk (tw @Ct (tw @Cs (tw @yq (tw @lg (tw @tx (tw @CA (tw @eo (tw @pH @aT.eq_1)))))))))))))))) ?_;(repeat(refine Pn.mk ?_;intro N hN))))
  refine .inl ⟨_,aj.x MP v7,?_⟩
  refine hN _ _ ?_
  clear hN N
  have stay:∀k',k'=k+1->(¬(0<fu bs f' ed v/\out (bh bs ed v)=out v-1))->((sL<0/\∀z,z<k'->¬(0<fu bs f' (I.getD z 0) v/\out (bh bs (I.getD z 0) v)=out v-1))∨∃ed:Nat,ed∈I/\DF=(ed:Int)/\sL=(bh bs ed v:Int)/\0<fu bs f' ed v/\out (bh bs ed v)=out v-1):=fun k' E8 kV=>by
   rcases Hf with⟨h1,h2⟩|h
   ·refine .inl ⟨h1,fun z hz=>?_⟩
    by_cases CC:z=k
    ·subst CC;rw[<-hed];exact kV
    ·exact h2 z (by omega)
   ·exact .inr h
  by_cases hr:0<fu bs f' ed v
  ·by_cases N3:out (bh bs ed v)=out v-1
   ·have s7:decide (out (bh bs ed v)=out v-1)=true:=decide_eq_true N3
    have found:∃OI:Nat,OI∈I/\(ed:Int)=(OI:Int)/\(bh bs ed v:Int)=(bh bs OI v:Int)/\0<fu bs f' OI v/\out (bh bs OI v)=out v-1:=⟨ed,rJ,rfl,rfl,hr,N3⟩
    by_cases Gj:sL<0
    ·(try((repeat(revert hN;revert N;apply Pn.out));refine wk (tw @nj (tw @c0 (tw @c2 (tw @c7 (tw @c8 (tw @c9 (tw @jj (tw @hk (tw @Ct (tw @Cs (tw @yq (tw @lg (tw @tx (tw @CA (tw @eo (tw @pH (tw @hr (tw @Oa (tw @lO (tw @rL (tw @s7 (tw @Gj @aT.eq_1)))))))))))))))))))))) ?_;(repeat(refine Pn.mk ?_;intro N hN))))
     exact gM (sd (tw @nj (tw @c0 (tw @c2 (tw @c7 @c8))))) (⟨_,_,sd @Nat.zero_add,sd @Nat.zero_add,.inr found⟩) (⟨lP,by(try dsimp only);omega⟩)
    ·by_cases dy:(bh bs ed v:Int)<sL
     ·(try((repeat(revert hN;revert N;apply Pn.out));refine wk (tw @nj (tw @c0 (tw @c2 (tw @c7 (tw @c8 (tw @c9 (tw @jj (tw @hk (tw @Ct (tw @Cs (tw @yq (tw @lg (tw @tx (tw @CA (tw @eo (tw @pH (tw @hr (tw @Oa (tw @lO (tw @rL (tw @s7 (tw @Gj (tw @dy @aT.eq_1))))))))))))))))))))))) ?_;(repeat(refine Pn.mk ?_;intro N hN))))
      exact gM (sd (tw @nj (tw @c0 (tw @c2 (tw @c7 @c8))))) (⟨_,_,sd @Nat.zero_add,sd @Nat.zero_add,.inr found⟩) (⟨lP,by(try dsimp only);omega⟩)
     ·(try((repeat(revert hN;revert N;apply Pn.out));refine wk (tw @nj (tw @c0 (tw @c2 (tw @c7 (tw @c8 (tw @c9 (tw @jj (tw @hk (tw @Ct (tw @Cs (tw @yq (tw @lg (tw @tx (tw @CA (tw @eo (tw @pH (tw @hr (tw @Oa (tw @lO (tw @rL (tw @s7 (tw @Gj (tw @dy @aT.eq_1))))))))))))))))))))))) ?_;(repeat(refine Pn.mk ?_;intro N hN))))
      exact gM (sd (tw @nj (tw @c0 (tw @c2 (tw @c7 @c8))))) (⟨sL,DF,sd @c9,sd @jj,by
       rcases Hf with⟨h1,_⟩|h
       ·exact absurd h1 Gj
       ·exact .inr h⟩) (⟨lP,by(try dsimp only);omega⟩)
   ·have s7:decide (out (bh bs ed v)=out v-1)=false:=decide_eq_false N3
    (try((repeat(revert hN;revert N;apply Pn.out));refine wk (tw @nj (tw @c0 (tw @c2 (tw @c7 (tw @c8 (tw @c9 (tw @jj (tw @hk (tw @Ct (tw @Cs (tw @yq (tw @lg (tw @tx (tw @CA (tw @eo (tw @pH (tw @hr (tw @Oa (tw @lO (tw @rL (tw @s7 @aT.eq_1))))))))))))))))))))) ?_;(repeat(refine Pn.mk ?_;intro N hN))))
    exact gM (sd (tw @nj (tw @c0 (tw @c2 (tw @c7 @c8))))) (⟨sL,DF,sd @c9,sd @jj,stay _ rfl fun h=>N3 h.2⟩) (⟨lP,by(try dsimp only);omega⟩)
  ·(try((repeat(revert hN;revert N;apply Pn.out));refine wk (tw @nj (tw @c0 (tw @c2 (tw @c7 (tw @c8 (tw @c9 (tw @jj (tw @hk (tw @Ct (tw @Cs (tw @yq (tw @lg (tw @tx (tw @CA (tw @eo (tw @pH (tw @hr @aT.eq_1))))))))))))))))) ?_;(repeat(refine Pn.mk ?_;intro N hN))))
   exact gM (sd (tw @nj (tw @c0 (tw @c2 (tw @c7 @c8))))) (⟨sL,DF,sd @c9,sd @jj,stay _ rfl fun h=>hr h.1⟩) (⟨lP,by(try dsimp only);omega⟩)
 ·have kQ:k=I.length:=by omega
  have R3:∃ed:Nat,ed∈I/\DF=(ed:Int)/\sL=(bh bs ed v:Int)/\0<fu bs f' ed v/\out (bh bs ed v)=out v-1:=by
   rcases Hf with⟨h1,h2⟩|h
   ·exfalso
    obtain⟨ed,he,hq⟩:=K8
    obtain⟨z,hz,rfl⟩:=List.getElem_of_mem he
    refine h2 z (by omega) ?_
    rw[List.getD_eq_getElem?_getD,List.getElem?_eq_getElem hz];exact hq
   ·exact h
  obtain⟨ed,rJ,rfl,rfl,hr,N3⟩:=R3
  obtain⟨he,oW⟩:=hIm _ rJ
  (try((repeat(revert hN;revert N;apply Pn.out));refine wk (tw @nj (tw @c0 (tw @c2 (tw @c7 (tw @c8 (tw @c9 (tw @jj (tw @hk (tw @Ct (tw @Cs (tw @yq (tw @lg (tw @tx (tw @CA (tw @pH @aT.eq_1))))))))))))))) ?_;(repeat(refine Pn.mk ?_;intro N hN))))
  refine .inr (aU _ _ _ _ _ (fun r σ1 hq=>?_) (Nc cnt bs f' JY ed v he X A F ⟨st_c.get,_⟩ nb (hN1.frame (fun i _=>lP i) (Nat.le_refl _)) (by(try dsimp only);omega)))
  obtain⟨Qs,lx,uw⟩:=hq
  (try dsimp only at lx uw)
  refine hN _ _ ?_
  clear hN N
  (try((repeat(revert hN;revert N;apply Pn.out));refine wk (tw @nj (tw @c0 (tw @c2 (tw @c7 (tw @c8 @c9))))) ?_;(repeat(refine Pn.mk ?_;intro N hN))))
  refine⟨_,?_,bh bs ed v,sM bs f' ed v,rfl,nW ok he,by omega,sd @Nat.zero_add,hW.step he oW hr N3,Qs,fun i hi hF=>by rw[uw i hF,lP i,jl i hi hF],by(try dsimp only);omega⟩
  omega
end Go.Proofs.YtgoelphibofcmaaGreat.V

namespace Go.Proofs.YtgoelphibofcmaaGreat.V
open Go.RowKit
attribute [local irreducible] dI wpOps ib Call
attribute [local go_sem] aJ gu eW gR gQ cE upd cw K.av cY AV.cells AV.cell rowOf rowsOf part ld rowAt bB cr dY eG jq bP dq eT gP fx dE eK dn dm eu ew bU bp db bR de dc eI eL eJ da cm dp eH bQ aO di cI jo bE cU bV aY du aV ea AV.undef bG bJ eA eE ei ep cJ eR eV cG eO eM dh dj List.getD_cons_zero List.getD_cons_succ List.getD_nil List.all_cons List.all_nil Bool.and_true Bool.true_and Bool.and_self Bool.not_true Bool.not_false Option.map_some Option.map_none Option.bind_some Option.bind_none List.length_cons List.length_nil List.take_succ_cons List.take_zero List.take_nil List.drop_succ_cons List.drop_zero List.drop_nil List.head?_cons List.map_cons List.map_nil List.getElem?_cons_zero List.getElem?_cons_succ List.cons_append List.nil_append List.append_nil List.length_map List.set_cons_zero List.set_cons_succ Nat.reduceMul eq_self Int.toNat_natCast Int.natCast_nonneg and_self true_and and_true decide_true decide_false Bool.false_eq_true Nat.zero_add Nat.add_zero List.contains_cons List.contains_nil Bool.or_false Bool.false_or beq_self_eq_true Nat.reduceBEq ne_eq not_true_eq_false not_false_eq_true Id.mk.injEq false_and and_false Nat.reduceLT Int.reduceLE Int.reduceLT Int.reduceToNat Int.reduceNeg Int.reduceAdd Nat.le_refl List.length_append beq_true beq_false Bool.not_eq_eq_eq_not or_false false_or eh ao aq aK br bI cC bc bz aQ bt cX cj
def r9 (P:Program) (f:Nat) (args:List AV) (R:AV->Prop):Prop:=∀σ:ar,Call P f args ⟨V.ro σ.get,σ.next⟩ fun r0 σ'=>∃r',V.fz σ'.get 6 r0=some r'/\R r'
theorem Ci {P:Program} {f:Nat} {args:List AV} {g:Rows} {n:Nat} {R:AV->Prop} (h:Sound P f args ⟨V.ro g,n⟩ fun r0 σ'=>∃r',V.fz σ'.get 6 r0=some r'/\R r'):Sound P f args ⟨g,n⟩ fun r σ'=>R r/\σ'=⟨g,n⟩:=by
 intro hs D ι w vs S U A
 refine(zK (g0:=g) (K:=R) h (fun _ _ h=>h) S U A).mono ?_
 rintro e w' ⟨r,D',u,rfl,hR,T,S',hr⟩
 exact⟨r,g,n,D',ι,u,rfl,⟨hR,rfl⟩,T,S',U,Nat.le_refl _,hr⟩
theorem r9.x {P:Program} (hm:P.follows .mixedOrders=true) {f:Nat} {args:List AV} {R:AV->Prop} (h:r9 P f args R) {σ:ar}:Call P f args σ fun r σ'=>R r/\σ'=σ:=
 iG (Ci (gY hm (h σ)))
theorem r9.body {P:Program} {f:Nat} {args:List AV} {R:AV->Prop} {nt na:Nat} {body:VC} {res:List mZ} (hf:np P f=some ⟨nt,na,body,res⟩) (ha:na=args.length) (h:(∀a∈args,dV a)->∀σ:ar,dI (Call P) body (j8 res fun r0 σ'=>∃r',V.fz σ'.get 6 r0=some r'/\R r') (cw args) ⟨V.ro σ.get,σ.next⟩):r9 P f args R:=fun σ=>lG hf ha fun hl=>h hl σ
theorem Kg {g:Rows} {rows:List (List AV)} {xs:List (List Nat)} {ids:List Id} (n:Nat) (h:eQ NU g rows xs ids):dJ g (n+2) rows=some (xs.map fun l=>[Nn l]):=by
 induction h with
 |nil=>rw[dJ];rfl
 |cons h1 _ ih=>
  rename_i x _ _ _ _ _
  rcases h1 with⟨h0,h1,_⟩|⟨id,h1,h0,h2,_⟩
  ·subst h0 h1;rw[dJ,ih,ao,aq,bc];rfl
  ·have fY:x≠[]:=by rintro rfl;simp at h0
   subst h1
   rw[dJ,ih,ao,aq,jx (e:=eN) (sz:=1) h2 rfl fun a=>fzN _ n a]
   simp[Nn,fY]
theorem nz.fz0 {cnt:Nat} {bs:List PB} {f:Nat->Int} {X A F:Id} {g:Rows} {nx:Nat} (h:nz cnt bs f X A F g nx):V.fz g 5 (.ptr X 0 0)=some (.bK (fH cnt bs f)):=by
 have hf:V.fz g 4 (.own F 0 bs.length)=some (.sl (dD f bs.length)):=by
  rw[il]
  simp only[h.f,if_true]
  rw[if_pos (by rw[cZ];omega),List.drop_zero,List.take_of_length_le (by rw[cZ];omega),zk];rfl
 have ha:V.fz g 4 (.own A 0 cnt)=some (.sl (pk cnt bs bs.length)):=by
  obtain⟨rows,ids,h1,h2,_,_⟩:=h.a
  have hl:=h2.len
  rw[jd]at hl
  rw[il]
  simp only[h1,if_true]
  rw[if_pos (by omega),List.drop_zero,List.take_of_length_le (by omega),Kg 1 h2]
  simp[kX,pk]
 rw[bt]
 simp only[h.x,if_true,List.getElem?_cons_zero,List.drop_zero,aT,ao,aq,aK,cC,ha,hf,Option.map_some,fH]
theorem DG {S:Nat->Bool}:∀bs:List PB,(∀b∈bs,b.s<=4)->iP S bs<=4*bs.length
 |[],_=>by simp[iP]
 |b::bs,h=>by
  rw[rn]
  have:=DG (S:=S) bs fun x hx=>h x (List.mem_cons_of_mem _ hx)
  have:=h b (by simp)
  simp only[List.length_cons]
  split<;>omega
theorem jK.zero {bs:List PB} {x y:Nat} (h:∀e,e<bs.length->0<=(bD bs e).s/\(bD bs e).s<=4):jK bs (fun _=>0) x y 0:=
 ⟨fun i hi=>by have:=h i hi;omega,fun S _ _=>jF fun i _=>by simp⟩
theorem Jp {bs:List PB} {b:PB} (h:b∈bs):∃e,e<bs.length/\bD bs e=b:=by
 obtain⟨e,he,rfl⟩:=List.getElem_of_mem h
 exact⟨e,he,by simp[bD,List.getD_eq_getElem?_getD,he]⟩
theorem Fw (cnt:Nat) (hn:cnt<=1048576) (bs:List PB) (ok:mK cnt bs) (ml:bs.length<=1048576) (cK:∀e,e<bs.length->0<=(bD bs e).s/\(bD bs e).s<=4) (x y:Nat) (hx:x<cnt) (hy:y<cnt) (Lm:x≠y):
  r9 Tryz.prog 218 [.int .i64 cnt,.sl (bs.map ay),.int .i64 x,.int .i64 y] fun r=>∃f val,r=.gN [.bK (fH cnt bs f),.int .i64 val]/\jK bs f x y val/\∃S:Nat->Bool,S x=true/\S y=false/\val=iP S bs:=by
 refine r9.body ej rfl fun hl σ=>?_
 clear hl
 (try((repeat(revert hN;revert N;apply Pn.out));refine wk @Nat.zero_add ?_;(repeat(refine Pn.mk ?_;intro N hN))))
 refine .inr (aU _ _ _ _ _ (fun r σ1 hq=>?_) (HI cnt hn bs ok ml _))
 obtain⟨X,A,F,rfl,hX,hS⟩:=hq
 refine hN _ _ ?_
 clear hN N
 have hS0:∀f val,jK bs f x y val->val<=iP (fun v=>decide (v=x)) bs:=fun f val hf=>hf.bound (decide_eq_true rfl) (decide_eq_false fun h=>Lm h.symm)
 have htot:=DG (S:=fun v=>decide (v=x)) bs fun b hb=>by
  obtain⟨e,he,rfl⟩:=Jp hb
  exact(cK e he).2
 generalize iP (fun v=>decide (v=x)) bs=T at *
 (try((repeat(revert hN;revert N;apply Pn.out));refine wk @Nat.zero_add ?_;(repeat(refine Pn.mk ?_;intro N hN))))
 refine aH (fun m env st=>∃(f:Nat->Int) (val:Int),m=(T-val).toNat/\0<=val/\env 10=.ptr X 0 0/\env 11=.int .i64 val/\jK bs f x y val/\nz cnt bs f X A F st.get σ1.next/\σ1.next<=st.next) T.toNat ⟨_,0,by simp,by omega,by(simp only[go_sem, ↓reduceIte,Nat.reduceEqDiff,Nat.reduceAdd,Nat.reduceSub,Nat.reduceLeDiff,reduceCtorEq]),by(simp only[go_sem, ↓reduceIte,Nat.reduceEqDiff,Nat.reduceAdd,Nat.reduceSub,Nat.reduceLeDiff,reduceCtorEq]),jK.zero cK,hS.frame (fun i hi=>rfl) (Nat.le_refl _),by(try dsimp only);omega⟩ ?_
 rintro m env_b st_b ⟨f,val,rfl,pK,b10,DD,hf,hN1,hle⟩ ec
 have b2:=ec 2 (by kernel_rfl)
 have b3:=ec 3 (by kernel_rfl)
 simp only[go_sem, ↓reduceIte,Nat.reduceEqDiff,Nat.reduceAdd,Nat.reduceSub,Nat.reduceLeDiff,reduceCtorEq]at b2 b3
 clear ec
 (try((repeat(revert hN;revert N;apply Pn.out));refine wk (tw @b2 (tw @b3 @b10)) ?_;(repeat(refine Pn.mk ?_;intro N hN))))
 refine .inr (aU _ _ _ _ _ (fun r σ2 hq=>?_) (Mb cnt hn bs ok ml cK f x y hx hy Lm val hf X A F ⟨st_b.get,_⟩ σ1.next hN1 (by(try dsimp only);omega)))
 obtain⟨b,f',rfl,Qs,lx,_,kV,SJ⟩:=hq
 (try dsimp only at lx)
 refine hN _ _ ?_
 clear hN N
 cases b with
 |true=>
  have jO:=SJ rfl
  have K4:=hS0 _ _ hf
  have Hd:=hS0 _ _ jO
  have hw:IntKind.i64.wrap (val+1)=val+1:=aZ (by omega)
  (try((repeat(revert hN;revert N;apply Pn.out));refine wk (tw @b10 (tw @DD @hw)) ?_;(repeat(refine Pn.mk ?_;intro N hN))))
  exact⟨_,by omega,f',val+1,rfl,by omega,sd @b10,sd (tw @DD @hw),jO,Qs,by(try dsimp only);omega⟩
 |false=>
  obtain⟨rfl,S,h1,h2,h3⟩:=kV rfl
  (try((repeat(revert hN;revert N;apply Pn.out));refine wk (tw @b10 @DD) ?_;(repeat(refine Pn.mk ?_;intro N hN))))
  have hz:=Qs.fz0
  exact⟨[.ptr X 0 0,.int .i64 val],sd @Nat.zero_add,.gN [.bK (fH cnt bs f'),.int .i64 val],by simp only[fe,cj,ao,aq,hz,aK,Option.map_some],f',val,rfl,hf,S,h1,h2,h3⟩
theorem Fx (cnt:Nat) (hn:cnt<=1048576) (bs:List PB) (ok:mK cnt bs) (ml:bs.length<=1048576) (f:Nat->Int) (hs:Small bs f) (y:Nat) (hy:y<cnt):
  lF Tryz.prog 219 [.bK (fH cnt bs f),.int .i64 y] fun r=>∃l:List Nat,r=.sl (l.map eN)/\l.length<=cnt:=by
 refine lF.body ej rfl fun hl n0=>?_
 clear hl
 have hz:∀g:Rows,cH (eh g) 6 [.bK (fH cnt bs f),.int .i64 (y:Int)]=some [.bK (fH cnt bs f),.int .i64 y]:=fun g=>by simp only[ao,aq,aQ,aK,Option.map_some]
 (try((repeat(revert hN;revert N;apply Pn.out));refine wk @Nat.zero_add ?_;(repeat(refine Pn.mk ?_;intro N hN))))
 refine .inr (aU _ _ _ _ _ (fun r σ1 hq=>?_) ((En cnt hn bs ok ml f hs y hy).x mixed (hz _)))
 obtain⟨⟨out,rfl,MS⟩,rfl⟩:=hq
 refine hN _ _ ?_
 clear hN N
 (try((repeat(revert hN;revert N;apply Pn.out));refine wk @fH.eq_1 ?_;(repeat(refine Pn.mk ?_;intro N hN))))
 refine aH (fun n env st=>∃k:Nat,n=(cnt)-k/\k<=(cnt)/\env 7=.int .i64 (k:Int)/\(∃(o:Id) (l:List Nat),env 6=.own o 0 l.length/\st.get o=some ⟨true,1,l.map eN⟩/\o.aW<st.next/\l.length<=k)) (cnt) ⟨0,by omega,by omega,sl @fH.eq_1,⟨⟨219002000,n0+1+1+1⟩,[],by(simp only[go_sem, ↓reduceIte,Nat.reduceEqDiff,Nat.reduceAdd,Nat.reduceSub,Nat.reduceLeDiff,reduceCtorEq])<;>rfl,by(simp only[go_sem, ↓reduceIte,Nat.reduceEqDiff,Nat.reduceAdd,Nat.reduceSub,Nat.reduceLeDiff,reduceCtorEq])<;>rfl,by(try dsimp only);omega,by simp⟩⟩ ?_
 rintro n_a env_a st_a ⟨k,rfl,ale,a7,nf⟩ dt
 have a0:=dt 0 (by kernel_rfl);have a5:=dt 5 (by kernel_rfl)
 simp only[go_sem, ↓reduceIte,Nat.reduceEqDiff,Nat.reduceAdd,Nat.reduceSub,Nat.reduceLeDiff,reduceCtorEq,fH]at a0 a5
 clear dt
 obtain⟨o,l,a6,ag,lO,MF⟩:=nf
 have pK:=dv lO
 have pI:(l.map eN).length=l.length:=by simp
 by_cases hk:(k:Int)<(cnt:Int)
 ·have bY:∀{e:Env} {gg:Rows} {nx:Nat},(e 7=.int .i64 (IntKind.i64.wrap ((k:Int)+1)))->(∃(o:Id) (l:List Nat),e 6=.own o 0 l.length/\gg o=some ⟨true,1,l.map eN⟩/\o.aW<nx/\l.length<=(k+1))->∃m0,m0<(cnt)-k/\∃k:Nat,m0=(cnt)-k/\k<=(cnt)/\e 7=.int .i64 (k:Int)/\(∃(o:Id) (l:List Nat),e 6=.own o 0 l.length/\gg o=some ⟨true,1,l.map eN⟩/\o.aW<nx/\l.length<=k):=fun x1 x2=>⟨_,by omega,k+1,rfl,by omega,(by rw[x1,ax (by omega)]),x2⟩
  have uC:=dz (f:=out) (show k<cnt by omega)
  rw[bq]at uC
  have e1:l.length+1<=16777216:=by omega
  by_cases h0:0<=out k
  ·(try((repeat(revert hN;revert N;apply Pn.out));refine wk (tw @a7 (tw @a0 (tw @a5 (tw @a6 (tw @ag (tw @pK (tw @hk (tw @uC (tw @h0 (tw @e1 (tw @pI @fH.eq_1))))))))))) ?_;(repeat(refine Pn.mk ?_;intro N hN))))
   exact bY (sd (tw @a7 (tw @a0 (tw @a5 @fH.eq_1)))) (⟨⟨219007003,st_a.next+1+1⟩,l++[k],by rw[List.length_append];simp only[go_sem, ↓reduceIte,Nat.reduceEqDiff,Nat.reduceAdd,Nat.reduceSub,Nat.reduceLeDiff,reduceCtorEq,List.length_cons,List.length_nil],by rw[List.map_append,List.map_cons,List.map_nil];simp only[go_sem, ↓reduceIte,Nat.reduceEqDiff,Nat.reduceAdd,Nat.reduceSub,Nat.reduceLeDiff,reduceCtorEq,eN],by(try dsimp only);omega,by simp;omega⟩)
  ·(try((repeat(revert hN;revert N;apply Pn.out));refine wk (tw @a7 (tw @a0 (tw @a5 (tw @a6 (tw @ag (tw @pK (tw @hk (tw @uC (tw @h0 (tw @pI @fH.eq_1)))))))))) ?_;(repeat(refine Pn.mk ?_;intro N hN))))
   exact bY (sd (tw @a7 (tw @a0 (tw @a5 @fH.eq_1)))) (⟨o,l,sd @a6,sd @ag,by(try dsimp only);omega,by omega⟩)
 ·(try((repeat(revert hN;revert N;apply Pn.out));refine wk (tw @a7 (tw @a0 (tw @a5 (tw @a6 (tw @hk @fH.eq_1))))) ?_;(repeat(refine Pn.mk ?_;intro N hN))))
  have rH:fX st_a.get 6 (.own o 0 l.length)=some (.sl (l.map eN)):=gZ ag rfl fun b=>L8 _ 4 b
  exact⟨_,rfl,_,by simp only[go_sem, ↓reduceIte,Nat.reduceEqDiff,Nat.reduceAdd,Nat.reduceSub,Nat.reduceLeDiff,reduceCtorEq,fe];exact rH,l,rfl,by omega⟩
end Go.Proofs.YtgoelphibofcmaaGreat.V

namespace Go.Proofs.YtgoelphibofcmaaGreat.V
open Go.RowKit
attribute [local irreducible] dI wpOps ib Call
attribute [local go_sem] aJ gu eW gR gQ cE upd cw K.av cY AV.cells AV.cell rowOf rowsOf part ld rowAt bB cr dY eG jq bP dq eT gP fx dE eK dn dm eu ew bU bp db bR de dc eI eL eJ da cm dp eH bQ aO di cI jo bE cU bV aY du aV ea AV.undef bG bJ eA eE ei ep cJ eR eV cG eO eM dh dj List.getD_cons_zero List.getD_cons_succ List.getD_nil List.all_cons List.all_nil Bool.and_true Bool.true_and Bool.and_self Bool.not_true Bool.not_false Option.map_some Option.map_none Option.bind_some Option.bind_none List.length_cons List.length_nil List.take_succ_cons List.take_zero List.take_nil List.drop_succ_cons List.drop_zero List.drop_nil List.head?_cons List.map_cons List.map_nil List.getElem?_cons_zero List.getElem?_cons_succ List.cons_append List.nil_append List.append_nil List.length_map List.set_cons_zero List.set_cons_succ Nat.reduceMul eq_self Int.toNat_natCast Int.natCast_nonneg and_self true_and and_true decide_true decide_false Bool.false_eq_true Nat.zero_add Nat.add_zero List.contains_cons List.contains_nil Bool.or_false Bool.false_or beq_self_eq_true Nat.reduceBEq ne_eq not_true_eq_false not_false_eq_true Id.mk.injEq false_and and_false Nat.reduceLT Int.reduceLE Int.reduceLT Int.reduceToNat Int.reduceNeg Int.reduceAdd Nat.le_refl List.length_append beq_true beq_false Bool.not_eq_eq_eq_not or_false false_or eh ao aq aK br bI cC bc bz aQ bt cX cj
theorem AN (v1 v2:Int) (l1 l2:List Nat) (h1:l1.length<=1048576) (h2:l2.length<=1048576):
  lF Tryz.prog 220 [.int .i64 v1,.sl (l1.map eN),.int .i64 v2,.sl (l2.map eN)] fun r=>∃b,r=.bool b/\(v1<v2->b=true)/\(v2<v1->b=false):=by
 refine lF.body ej rfl fun hl n0=>?_
 clear hl
 have ret:∀{t:Nat} {env:Env} {σ:ar} {b:Bool} {x:Ex},(x=.ret∨x=.normal)->env t=.bool b->((v1<v2->b=true)/\(v2<v1->b=false))->j8 [.tmp t] (fun r0 σ'=>∃r',fX σ'.get 6 r0=some r'/\∃b,r'=.bool b/\(v1<v2->b=true)/\(v2<v1->b=false)) x env σ:=by
  intro t env σ b x hx he hb
  have:∃vs,eY env σ.get [.tmp t]=some vs/\∃r',fX σ.get 6 (fe vs)=some r'/\∃b,r'=.bool b/\(v1<v2->b=true)/\(v2<v1->b=false):=⟨[env t],rfl,.bool b,by rw[he];exact dO _ _ _,b,rfl,hb⟩
  rcases hx with rfl|rfl
  ·exact this
  ·exact this
 have m1:(l1.map eN).length=l1.length:=by simp
 have m2:(l2.map eN).length=l2.length:=by simp
 by_cases hv:v1=v2
 ·have hd:decide (v1=v2)=true:=decide_eq_true hv
  by_cases MF:(l1.length:Int)=(l2.length:Int)
  ·have s7:decide ((l1.length:Int)=(l2.length:Int))=true:=decide_eq_true MF
   have O1:decide (l1.length=l2.length)=true:=decide_eq_true (by omega)
   (try((repeat(revert hN;revert N;apply Pn.out));refine wk (tw @hd (tw @s7 (tw @O1 (tw @m1 @m2)))) ?_;(repeat(refine Pn.mk ?_;intro N hN))))
   refine aH (fun n env st=>∃k:Nat,n=(l1.length)-k/\k<=(l1.length)/\env 9=.int .i64 (k:Int)) (l1.length) ⟨0,by omega,by omega,sl @Nat.zero_add⟩ ?_
   rintro n_a env_a st_a ⟨k,rfl,ale,a9⟩ dt
   have a1:=dt 1 (by kernel_rfl);have a3:=dt 3 (by kernel_rfl)
   simp only[go_sem, ↓reduceIte,Nat.reduceEqDiff,Nat.reduceAdd,Nat.reduceSub,Nat.reduceLeDiff,reduceCtorEq]at a1 a3
   clear dt
   by_cases hk:(k:Int)<(l1.length:Int)
   ·have bY:∀{e:Env},(e 9=.int .i64 (IntKind.i64.wrap ((k:Int)+1)))->∃m0,m0<(l1.length)-k/\∃k:Nat,m0=(l1.length)-k/\k<=(l1.length)/\e 9=.int .i64 (k:Int):=fun x1=>⟨_,by omega,k+1,rfl,by omega,(by rw[x1,ax (by omega)])⟩
    have g1:(l1.map eN)[k]? =some (eN (l1.getD k 0)):=getD_map eN (by omega)
    have g2:(l2.map eN)[k]? =some (eN (l2.getD k 0)):=getD_map eN (by omega)
    rw[eN]at g1 g2
    by_cases he:((l1.getD k 0:Nat):Int)=((l2.getD k 0:Nat):Int)
    ·have Hi:decide (((l1.getD k 0:Nat):Int)=((l2.getD k 0:Nat):Int))=true:=decide_eq_true he
     have RV:decide (l1.getD k 0=l2.getD k 0)=true:=decide_eq_true (by omega)
     (try((repeat(revert hN;revert N;apply Pn.out));refine wk (tw @a9 (tw @a1 (tw @a3 (tw @hk (tw @m1 (tw @g1 (tw @g2 (tw @Hi @RV)))))))) ?_;(repeat(refine Pn.mk ?_;intro N hN))))
     exact bY (sd (tw @a9 (tw @a1 @a3)))
    ·have Hi:decide (((l1.getD k 0:Nat):Int)=((l2.getD k 0:Nat):Int))=false:=decide_eq_false he
     have RV:decide (l1.getD k 0=l2.getD k 0)=false:=decide_eq_false (by omega)
     (try((repeat(revert hN;revert N;apply Pn.out));refine wk (tw @a9 (tw @a1 (tw @a3 (tw @hk (tw @m1 (tw @g1 (tw @g2 (tw @Hi @RV)))))))) ?_;(repeat(refine Pn.mk ?_;intro N hN))))
     exact ret (.inl rfl) (by simp only[go_sem, ↓reduceIte,Nat.reduceEqDiff,Nat.reduceAdd,Nat.reduceSub,Nat.reduceLeDiff,reduceCtorEq];rfl) ⟨fun h=>by omega,fun h=>by omega⟩
   ·(try((repeat(revert hN;revert N;apply Pn.out));refine wk (tw @a9 (tw @a1 (tw @a3 (tw @hk @m1)))) ?_;(repeat(refine Pn.mk ?_;intro N hN))))
    exact ret (b:=false) (.inl rfl) (sd @Nat.zero_add) ⟨fun h=>by omega,fun h=>by omega⟩
  ·have s7:decide ((l1.length:Int)=(l2.length:Int))=false:=decide_eq_false MF
   have O1:decide (l1.length=l2.length)=false:=decide_eq_false (by omega)
   (try((repeat(revert hN;revert N;apply Pn.out));refine wk (tw @hd (tw @s7 (tw @O1 (tw @m1 @m2)))) ?_;(repeat(refine Pn.mk ?_;intro N hN))))
   exact ret (.inl rfl) (by simp only[go_sem, ↓reduceIte,Nat.reduceEqDiff,Nat.reduceAdd,Nat.reduceSub,Nat.reduceLeDiff,reduceCtorEq];rfl) ⟨fun h=>by omega,fun h=>by omega⟩
 ·have hd:decide (v1=v2)=false:=decide_eq_false hv
  (try((repeat(revert hN;revert N;apply Pn.out));refine wk @hd ?_;(repeat(refine Pn.mk ?_;intro N hN))))
  exact ret (b:=decide (v1<v2)) (.inl rfl) (sd @Nat.zero_add) ⟨fun h=>decide_eq_true h,fun h=>decide_eq_false (by omega)⟩
def tL (bs:List PB) (cnt:Nat) (iX:Int) (k:Nat):Prop:=(k=1/\iX= -1)∨(0<=iX/\(∀z,1<=z->z<k->∀S:Nat->Bool,S 0=true->S z=false->iX<=iP S bs)/\∃S:Nat->Bool,S 0=true/\(∃z,z<cnt/\S z=false)/\iX=iP S bs)
theorem jK.nn {bs:List PB} {val:Int} {S:Nat->Bool} (cK:∀e,e<bs.length->0<=(bD bs e).s/\(bD bs e).s<=4) (h:val=iP S bs):0<=val:=by
 rw[h,ua]
 have:=qN (f:=fun _=>0) (g:=fun i=>if S (bD bs i).a=S (bD bs i).b then 0 else(bD bs i).s) (n:=bs.length) fun i hi=>by
  have:=cK i hi
  split<;>omega
 rw[jF fun _ _=>rfl]at this
 exact this
theorem tL.done {bs:List PB} {cnt:Nat} {iX:Int} (hc:2<=cnt) (h:tL bs cnt iX cnt) (t:Int):t<=iX↔kh cnt bs t:=by
 rcases h with⟨h,_⟩|⟨_,h1,S,h2,⟨z,hz,kf⟩,h3⟩
 ·omega
 ·constructor
  ·intro ht S h0 ⟨y,hy,hy2⟩
   have:y≠0:=by rintro rfl;rw[h0]at hy2;cases hy2
   have:=h1 y (by omega) hy S h0 hy2
   omega
  ·intro hH
   rw[h3];exact hH S h2 ⟨z,hz,kf⟩
theorem yF (cnt:Nat) (h2:2<=cnt) (hn:cnt<=1048576) (bs:List PB) (ok:mK cnt bs) (ml:bs.length<=1048576) (cK:∀e,e<bs.length->0<=(bD bs e).s/\(bD bs e).s<=4):
  r9 Tryz.prog 194 [.int .i64 cnt,.sl (bs.map ay)] fun r=>∃iX p,r=.gN [.int .i64 iX,p]/\∀t:Int,t<=iX↔kh cnt bs t:=by
 refine r9.body ej rfl fun hl σ=>?_
 clear hl
 (try((repeat(revert hN;revert N;apply Pn.out));refine wk @Nat.zero_add ?_;(repeat(refine Pn.mk ?_;intro N hN))))
 have z0:∀(g:Rows) (id:Id),g id=some ⟨true,1,[]⟩->V.fz (eh g) 6 (.own id 0 0)=some (.sl (([]:List Nat).map eN))/\V.fz g 5 (.own id 0 0)=some (.sl (([]:List Nat).map eN)):=fun g id h=>by
  have h':eh g id=some ⟨true,1,[]⟩:=by simp[eh,h]
  constructor
  ·rw[il];simp only[h',if_true];rw[if_pos (by simp)];simp[nM]
  ·rw[il];simp only[h,if_true];rw[if_pos (by simp)];simp[nM]
 refine aH (fun m env st=>∃(k:Nat) (iX:Int) (l:List Nat) (p:AV),m=cnt-k/\1<=k/\k<=cnt/\env 8=.int .i64 (k:Int)/\env 6=.int .i64 iX/\env 7=p/\V.fz (eh st.get) 6 p=some (.sl (l.map eN))/\V.fz st.get 5 p=some (.sl (l.map eN))/\l.length<=cnt/\tL bs cnt iX k) (cnt-1) ⟨1,-1,[],.own ⟨194002000,σ.next+1+1⟩ 0 0,rfl,by omega,by omega,by(simp only[go_sem, ↓reduceIte,Nat.reduceEqDiff,Nat.reduceAdd,Nat.reduceSub,Nat.reduceLeDiff,reduceCtorEq])<;>rfl,by(simp only[go_sem, ↓reduceIte,Nat.reduceEqDiff,Nat.reduceAdd,Nat.reduceSub,Nat.reduceLeDiff,reduceCtorEq])<;>rfl,by(simp only[go_sem, ↓reduceIte,Nat.reduceEqDiff,Nat.reduceAdd,Nat.reduceSub,Nat.reduceLeDiff,reduceCtorEq])<;>rfl,(z0 _ _ (sd @Nat.zero_add)).1,(z0 _ _ (sd @Nat.zero_add)).2,by simp,.inl ⟨rfl,rfl⟩⟩ ?_
 rintro m env_b st_b ⟨k,iX,l,p,rfl,vZ,uA,b8,b6,b7,tz,kf,hl,hB⟩ ec
 have b0:=ec 0 (by kernel_rfl)
 have b1:=ec 1 (by kernel_rfl)
 simp only[go_sem, ↓reduceIte,Nat.reduceEqDiff,Nat.reduceAdd,Nat.reduceSub,Nat.reduceLeDiff,reduceCtorEq]at b0 b1
 clear ec z0
 by_cases hk:(k:Int)<(cnt:Int)
 ·have eZ:k<cnt:=by omega
  have hFl:=Fw cnt hn bs ok ml cK 0 k (by omega) eZ (by omega)
  rw[show(((0:Nat):Int))=0 from rfl]at hFl
  (try((repeat(revert hN;revert N;apply Pn.out));refine wk (tw @b0 (tw @b1 (tw @b6 (tw @b7 (tw @b8 @hk))))) ?_;(repeat(refine Pn.mk ?_;intro N hN))))
  refine .inr (aU _ _ _ _ _ (fun r σ1 hq=>?_) (hFl.x mixed))
  obtain⟨⟨f,val,rfl,hf,S,Ms,Mt,Qu⟩,rfl⟩:=hq
  refine hN _ _ ?_
  clear hN N
  have JY:=vG cK hf.le
  have rK:=jK.nn (val:=val) cK Qu
  (try((repeat(revert hN;revert N;apply Pn.out));refine wk (tw @b0 (tw @b1 (tw @b6 (tw @b7 @b8)))) ?_;(repeat(refine Pn.mk ?_;intro N hN))))
  refine .inr (aU _ _ _ _ _ (fun r σ1 hq=>?_) ((Fx cnt hn bs ok ml f JY k eZ).x mixed (by simp only[ao,aq,aQ,aK,Option.map_some])))
  obtain⟨⟨l',rfl,Ja⟩,rfl⟩:=hq
  refine hN _ _ ?_
  clear hN N
  have hw:IntKind.i64.wrap ((k:Int)+1)=((k+1:Nat):Int):=ax (by omega)
  have PZ:(∀z,1<=z->z<k->∀S:Nat->Bool,S 0=true->S z=false->val<=iP S bs)->tL bs cnt val (k+1):=fun h=>.inr ⟨rK,fun z tz kf S' h0 h1=>by
   by_cases v7:z=k
   ·subst v7;exact hf.bound h0 h1
   ·exact h z tz (by omega) S' h0 h1,S,Ms,⟨k,eZ,Mt⟩,Qu⟩
  by_cases jP:iX<0
  ·have Aj:k=1:=by
    rcases hB with⟨h,_⟩|⟨h,_⟩
    ·exact h
    ·omega
   (try((repeat(revert hN;revert N;apply Pn.out));refine wk (tw @b0 (tw @b1 (tw @b6 (tw @b7 (tw @b8 (tw @jP @hw)))))) ?_;(repeat(refine Pn.mk ?_;intro N hN))))
   refine⟨_,?_,k+1,val,l',.sl (l'.map eN),rfl,by omega,by omega,sd (tw @b8 @hw),sd @Nat.zero_add,sd @Nat.zero_add,cC _ _ _,cC _ _ _,Ja,PZ fun z h1 h2=>by omega⟩
   omega
  ·have Aj:(∀z,1<=z->z<k->∀S:Nat->Bool,S 0=true->S z=false->iX<=iP S bs)/\∃S:Nat->Bool,S 0=true/\(∃z,z<cnt/\S z=false)/\iX=iP S bs:=by
    rcases hB with⟨_,h⟩|⟨_,h⟩
    ·omega
    ·exact h
   (try((repeat(revert hN;revert N;apply Pn.out));refine wk (tw @b0 (tw @b1 (tw @b6 (tw @b7 (tw @b8 (tw @jP @hw)))))) ?_;(repeat(refine Pn.mk ?_;intro N hN))))
   refine .inr (aU _ _ _ _ _ (fun r σ1 hq=>?_) ((AN val iX l' l (by omega) (by omega)).x mixed (by simp only[ao,aq,cC,aK,tz,Option.map_some])))
   obtain⟨⟨b,rfl,K4,Hd⟩,rfl⟩:=hq
   refine hN _ _ ?_
   clear hN N
   cases b with
   |true=>
    have Oi:val<=iX:=by
     rcases Int.lt_or_le iX val with h|h
     ·exact absurd (Hd h) (by simp)
     ·exact h
    (try((repeat(revert hN;revert N;apply Pn.out));refine wk (tw @b0 (tw @b1 (tw @b6 (tw @b7 (tw @b8 @hw))))) ?_;(repeat(refine Pn.mk ?_;intro N hN))))
    refine⟨_,?_,k+1,val,l',.sl (l'.map eN),rfl,by omega,by omega,sd (tw @b8 @hw),sd @Nat.zero_add,sd @Nat.zero_add,cC _ _ _,cC _ _ _,Ja,PZ fun z h1 h2 S' h3 h4=>by have:=Aj.1 z h1 h2 S' h3 h4;omega⟩
    omega
   |false=>
    have Oi:iX<=val:=by
     rcases Int.lt_or_le val iX with h|h
     ·exact absurd (K4 h) (by simp)
     ·exact h
    (try((repeat(revert hN;revert N;apply Pn.out));refine wk (tw @b0 (tw @b1 (tw @b6 (tw @b7 (tw @b8 @hw))))) ?_;(repeat(refine Pn.mk ?_;intro N hN))))
    refine⟨_,?_,k+1,iX,l,p,rfl,by omega,by omega,sd (tw @b8 @hw),sd @b6,sd @b7,tz,kf,hl,.inr ⟨by omega,fun z h1 h2 S' h3 h4=>?_,Aj.2⟩⟩
    ·omega
    ·by_cases v7:z=k
     ·subst v7;have:=hf.bound h3 h4;omega
     ·exact Aj.1 z h1 (by omega) S' h3 h4
 ·have kQ:k=cnt:=by omega
  (try((repeat(revert hN;revert N;apply Pn.out));refine wk (tw @b0 (tw @b1 (tw @b6 (tw @b7 (tw @b8 @hk))))) ?_;(repeat(refine Pn.mk ?_;intro N hN))))
  exact⟨[.int .i64 iX,p],sd @Nat.zero_add,.gN [.int .i64 iX,.sl (l.map eN)],by simp only[fe,cj,ao,aq,kf,aK,Option.map_some],iX,_,rfl,tL.done h2 (kQ▸hB)⟩
end Go.Proofs.YtgoelphibofcmaaGreat.V

namespace Go.Proofs.YtgoelphibofcmaaGreat.V
open Go.RowKit
inductive qa:List AV->List AV->Prop
 |nil:qa [] []
 |same (a) {l l'}:qa l l'->qa (a::l) (a::l')
 |ptr (cs rest) {l l'}:qa l l'->qa (.bK (cs++rest)::l) (.bK cs::l')
 |cu {l l'}:qa l l'->qa (.cu::l) (.sl []::l')
theorem Kx {P:Program} {w:World} {D:Nat->Prop} {ι:Names} {cs rest:List AV} {v:Value} (h:cq P w D ι (.bK (cs++rest)) v):cq P w D ι (.bK cs) v:=by
 obtain⟨b,o,vs,rfl,h1,h2,h3,h4⟩:=kF h
 exact .eD _ _ (.bK cs b o vs h1 (fun a ha=>h2 a (List.mem_append_left _ ha)) (fun j hj=>h3 j (by rw[List.length_append];omega)) fun j a ha=>h4 j a (by
  have:=(List.getElem?_eq_some_iff.1 ha).1
  rw[List.getElem?_append_left this];exact ha))
theorem Kz {P:Program} {w:World} {D:Nat->Prop} {ι:Names} {v:Value} (h:cq P w D ι .cu v):cq P w D ι (.sl []) v:=by
 cases h with
 |eD _ _ h=>
  cases h with
  |cu=>exact .eD _ _ (.C9 none 0 (Nat.zero_le _))
theorem qa.len {l l':List AV} (h:qa l l'):l'.length=l.length:=by induction h<;>simp_all
theorem qa.get {P:Program} {w:World} {D:Nat->Prop} {ι:Names} {l l':List AV} (h:qa l l'):∀{j:Nat} {a':AV},l'[j]? =some a'->∃a,l[j]? =some a/\∀v,cq P w D ι a v->cq P w D ι a' v:=by
 induction h with
 |nil=>intro j a' hj;simp at hj
 |same a _ ih=>
  intro j a' hj
  cases j with
  |zero=>simp at hj;subst hj;exact⟨a,rfl,fun _ h=>h⟩
  |succ j=>exact ih (by simpa using hj)
 |ptr cs rest _ ih=>
  intro j a' hj
  cases j with
  |zero=>simp at hj;subst hj;exact⟨_,rfl,fun _ h=>Kx h⟩
  |succ j=>exact ih (by simpa using hj)
 |cu _ ih=>
  intro j a' hj
  cases j with
  |zero=>simp at hj;subst hj;exact⟨_,rfl,fun _ h=>Kz h⟩
  |succ j=>exact ih (by simpa using hj)
theorem Call.cut {P:Program} (hm:P.follows .mixedOrders=true) {f:Nat} {args fb:List AV} {σ:ar} {K:AV->ar->Prop} (hc:qa args fb) (h:Call P f fb σ K):Call P f args σ K:=
 iG fun hs D ι w vs S U A=>gY hm h hs D ι w vs S U ⟨by rw[A.1,hc.len],fun j a' hj=>by
  obtain⟨a,ha,hr⟩:=hc.get (P:=P) (w:=w) (D:=D) (ι:=ι) hj
  obtain⟨u,hu,hv⟩:=A.2 j a ha
  exact⟨u,hu,hr u hv⟩⟩
theorem aj.cut {P:Program} (hm:P.follows .mixedOrders=true) {f:Nat} {args fb:List AV} {r:AV} (hc:qa args fb) (h:aj P f fb r):aj P f args r:=fun n=>(h n).cut hm hc
theorem l5.cut {P:Program} (hm:P.follows .mixedOrders=true) {f:Nat} {args fb:List AV} {r:AV} (hc:qa args fb) (h:l5 P f fb r):l5 P f args r:=fun σ=>Call.cut hm hc (h σ)
end Go.Proofs.YtgoelphibofcmaaGreat.V

namespace Go.Proofs.YtgoelphibofcmaaGreat.V
open Go.RowKit
attribute [local irreducible] dI wpOps ib Call
attribute [local go_sem] aJ gu eW gR gQ cE upd cw K.av cY AV.cells AV.cell rowOf rowsOf part ld rowAt bB cr dY eG jq bP dq eT gP fx dE eK dn dm eu ew bU bp db bR de dc eI eL eJ da cm dp eH bQ aO di cI jo bE cU bV aY du aV ea AV.undef bG bJ eA eE ei ep cJ eR eV cG eO eM dh dj List.getD_cons_zero List.getD_cons_succ List.getD_nil List.all_cons List.all_nil Bool.and_true Bool.true_and Bool.and_self Bool.not_true Bool.not_false Option.map_some Option.map_none Option.bind_some Option.bind_none List.length_cons List.length_nil List.take_succ_cons List.take_zero List.take_nil List.drop_succ_cons List.drop_zero List.drop_nil List.head?_cons List.map_cons List.map_nil List.getElem?_cons_zero List.getElem?_cons_succ List.cons_append List.nil_append List.append_nil List.length_map List.set_cons_zero List.set_cons_succ Nat.reduceMul eq_self Int.toNat_natCast Int.natCast_nonneg and_self true_and and_true decide_true decide_false Bool.false_eq_true Nat.zero_add Nat.add_zero List.contains_cons List.contains_nil Bool.or_false Bool.false_or beq_self_eq_true Nat.reduceBEq ne_eq not_true_eq_false not_false_eq_true Id.mk.injEq false_and and_false Nat.reduceLT Int.reduceLE Int.reduceLT Int.reduceToNat Int.reduceNeg Int.reduceAdd Nat.le_refl List.length_append beq_true beq_false Bool.not_eq_eq_eq_not or_false false_or eh ao aq aK br bI cC bc bz aQ bt cX cj
theorem KD {s:au} (hS:gW s) (a d:Int):rZ s (cN (cP s a) d)<=4:=by
 have hF:=hS.form
 have fA:cN (cP s a) d=0∨(0<=cN (cP s a) d/\cN (cP s a) d<=s.aA.length):=by
  unfold cN cP
  rw[List.getD_eq_getElem?_getD,List.getD_eq_getElem?_getD]
  rcases ht:s.ah[a.toNat]? with _|t
  ·exact .inl (by simp[yV])
  ·have Pv:=List.mem_of_getElem? ht
   simp only[Option.getD_some]
   rcases hg:t.bH[d.toNat]? with _|g
   ·exact .inl rfl
   ·exact .inr (hF.ur t Pv g (List.mem_of_getElem? hg))
 unfold rZ
 by_cases h0:cN (cP s a) d=0
 ·rw[if_pos h0];omega
 ·rw[if_neg h0]
  have hk:(cN (cP s a) d-1).toNat<s.aA.length:=by omega
  have:=dP (hS.Qm _ hk).2.1
  unfold oU at this
  unfold pE
  omega
theorem zS {s:au} (hS:gW s) (a d b:Int):gw s a d b<=4:=by
 unfold gw
 split
 ·exact KD hS a d
 ·omega
theorem EJ {s:au} {l:List ae} (hS:gW s) {i:Nat} (hi:i<l.length) {d:Int}:∀b∈mc s l i d,b.a<l.length/\b.b<l.length/\0<=b.s/\b.s<=4:=by
 intro b hb
 unfold mc at hb
 split at hb
 ·rename_i h
  simp only[List.mem_singleton]at hb
  subst hb
  exact⟨hi,(lj h.1).1,by simp only;omega,zS hS ..⟩
 ·cases hb
theorem wZ {s:au} {l:List ae} (hS:gW s):∀b∈bL s l,b.a<l.length/\b.b<l.length/\0<=b.s/\b.s<=4:=by
 intro b hb
 simp only[bL,gn,fM,List.mem_flatMap,List.mem_range]at hb
 obtain⟨i,hi,j,_,hb⟩:=hb
 exact EJ hS hi b hb
theorem po {s:au} {l:List ae} (hF:gK l):(bL s l).length<=1000:=by
 have:=sf s l l.length
 have:=hF.so
 rw[bL];omega
theorem GG {bs:List PB} {e:Nat} (h:e<bs.length):bD bs e∈bs:=by
 rw[bD,List.getD_eq_getElem?_getD,List.getElem?_eq_getElem h];exact List.getElem_mem h
theorem Fb {n:Nat} {bs:List PB} {t:Int} (h:n<2):kh n bs t:=fun S h0 ⟨y,hy,hf⟩=>by
 have:y=0:=by omega
 subst this;rw[h0]at hf;cases hf
def ig (s:au) (l:List ae) (t:Int):Nat:=(leads l.length (dQ (aE t (bL s l)))).length
noncomputable def mW (s:au) (l:List ae) (t:Int):Bool:=@decide (ot l.length (bL s l) t) (Classical.propDecidable _)
def rq (s:au) (l:List ae) (t:Int):Int:=if 64<ig s l t then 4 else 0
theorem lW {s:au} {l:List ae} {t:Int} {p:Prop} [Decidable p] (h:p↔ot l.length (bL s l) t):decide p=mW s l t:=by
 letI:=Classical.propDecidable (ot l.length (bL s l) t)
 unfold mW
 by_cases hp:p
 ·rw[decide_eq_true hp];exact(decide_eq_true (h.1 hp)).symm
 ·rw[decide_eq_false hp];exact(decide_eq_false fun k=>hp (h.2 k)).symm
theorem AP (s:au) (l:List ae) (t:Int) (hS:gW s) (hA:jw s l):aj Tryz.prog 158 [.bK (ab s),.bK [.sl (l.map ad)],.int .i64 t] (.gN [.bool (mW s l t),.int .i64 (rq s l t)]):=by
 refine aj.body ej rfl fun hl n0=>?_
 clear hl
 have hb:=wZ (l:=l) hS
 have ml:=po (s:=s) hA.1
 have An:=hA.1.so
 have s6:=CI s l hS.form hA
 have Je:=AO l.length (by omega) (bL s l) (fun b h=>⟨(hb b h).1,(hb b h).2.1⟩) (by omega) t
 have hL:=sH (aE t (bL s l))
 have fA:=C8 hL (fun b h=>⟨(hb b h).1,(hb b h).2.1⟩)
 have hlen:=(mC (dQ (aE t (bL s l))) (bL s l)).2
 have oV:=jA l.length (dQ (aE t (bL s l)))
 have fy:(l.map ad).length=l.length:=by simp
 by_cases sZ:(64:Int)<(ig s l t:Int)
 ·have s4:64<ig s l t:=by omega
  have hd:mW s l t=false:=(lW (p:=False) ⟨False.elim,fun h=>by have:=h.1;unfold ig at s4;omega⟩).symm.trans (by simp)
  rw[ig]at sZ
  (repeat(first|((repeat(revert hN;revert N;apply Pn.out));refine wk (tw @ab.eq_1 (tw @sZ @fy)) ?_;(repeat(refine Pn.mk ?_;intro N hN)))|((try apply Or.inl);refine⟨_,aj.x (s6) (sd (tw @ab.eq_1 (tw @sZ @fy))),?_⟩;refine hN _ _ ?_;clear hN N)|((try apply Or.inl);refine⟨_,aj.x (Je) (sd (tw @ab.eq_1 (tw @sZ @fy))),?_⟩;refine hN _ _ ?_;clear hN N)))
  exact gz (.inl rfl) (r1:=.bool false) (r2:=.int .i64 4) (sd @Nat.zero_add) (sd @Nat.zero_add) (by rw[hd,rq,if_pos s4];simp only[dU,aP,bx,dO,dL,Option.map_some])
 have s4:¬64<ig s l t:=by omega
 have hf:rq s l t=0:=by rw[rq,if_neg s4]
 by_cases h2:(ig s l t:Int)<2
 ·have hd:mW s l t=true:=(lW (p:=True) ⟨fun _=>⟨by unfold ig at s4;omega,Fb (by unfold ig at h2;omega)⟩,fun _=>trivial⟩).symm.trans (by simp)
  rw[ig]at sZ h2
  (repeat(first|((repeat(revert hN;revert N;apply Pn.out));refine wk (tw @ab.eq_1 (tw @sZ (tw @h2 @fy))) ?_;(repeat(refine Pn.mk ?_;intro N hN)))|((try apply Or.inl);refine⟨_,aj.x (s6) (sd (tw @ab.eq_1 (tw @sZ (tw @h2 @fy)))),?_⟩;refine hN _ _ ?_;clear hN N)|((try apply Or.inl);refine⟨_,aj.x (Je) (sd (tw @ab.eq_1 (tw @sZ (tw @h2 @fy)))),?_⟩;refine hN _ _ ?_;clear hN N)))
  exact gz (.inl rfl) (r1:=.bool true) (r2:=.int .i64 0) (sd @Nat.zero_add) (sd @Nat.zero_add) (by rw[hd,hf];simp only[dU,aP,bx,dO,dL,Option.map_some])
 have J3:=yF (ig s l t) (by omega) (by unfold ig;omega) (eP (dQ (aE t (bL s l))) (bL s l)) (fun e he=>by have:=fA _ (GG he);exact⟨this.1,this.2.1,this.2.2.1⟩) (by omega) (fun e he=>by
  obtain⟨_,_,_,c,hc,cR⟩:=fA _ (GG he)
  rw[cR];have:=hb c hc;omega)
 rw[ig]at sZ h2 J3
 (repeat(first|((repeat(revert hN;revert N;apply Pn.out));refine wk (tw @ab.eq_1 (tw @sZ (tw @h2 @fy))) ?_;(repeat(refine Pn.mk ?_;intro N hN)))|((try apply Or.inl);refine⟨_,aj.x (s6) (sd (tw @ab.eq_1 (tw @sZ (tw @h2 @fy)))),?_⟩;refine hN _ _ ?_;clear hN N)|((try apply Or.inl);refine⟨_,aj.x (Je) (sd (tw @ab.eq_1 (tw @sZ (tw @h2 @fy)))),?_⟩;refine hN _ _ ?_;clear hN N)))
 refine .inr (aU _ _ _ _ _ (fun r σ1 hq=>?_) (J3.x mixed))
 obtain⟨⟨iX,p,rfl,OV⟩,rfl⟩:=hq
 refine hN _ _ ?_
 clear hN N
 (try((repeat(revert hN;revert N;apply Pn.out));refine wk @Nat.zero_add ?_;(repeat(refine Pn.mk ?_;intro N hN))))
 exact gz (.inl rfl) (r1:=.bool (decide (t<=iX))) (r2:=.int .i64 0) (sd @Nat.zero_add) (sd @Nat.zero_add) (by
  rw[hf,lW (s:=s) (l:=l) (t:=t) (p:=t<=iX) ((OV t).trans (Cx.trans ⟨fun h=>⟨by unfold ig at s4;omega,h⟩,fun h=>h.2⟩))]
  simp only[dU,aP,bx,dO,dL,Option.map_some])
theorem rP (t:Int):aj Tryz.prog 157 [.int .i64 t] (.bool (iM t 1 16)):=by
 refine aj.body ej rfl fun hl n0=>?_
 clear hl
 have h:=lk t 1 16
 (repeat(first|((repeat(revert hN;revert N;apply Pn.out));refine wk @Nat.zero_add ?_;(repeat(refine Pn.mk ?_;intro N hN)))|((try apply Or.inl);refine⟨_,aj.x (h) (sd @Nat.zero_add),?_⟩;refine hN _ _ ?_;clear hN N)))
 exact aI (b:=iM t 1 16) (.inl rfl) (sd @Nat.zero_add) rfl
structure wb (s:aC):Prop where
 set:gW s.aB
 Bc:jw s.aB s.aX.ah
 some:1<=s.aX.ah.length
 Nr:iM s.az 1 16=true
 holds:ot s.aX.ah.length (bL s.aB s.aX.ah) s.az
noncomputable def mE (s:aC):Bool:=@decide (wb s) (Classical.propDecidable _)
theorem vJ {s:aC}:mE s=true↔wb s:=by simp[mE]
theorem jJ {s:aC} (h:¬wb s):false=mE s:=by simp[mE,h]
theorem Bg {s:aC} (h:wb s):true=mE s:=by simp[mE,h]
theorem oJ {s:au} {l:List ae} {t:Int}:mW s l t=true↔ot l.length (bL s l) t:=by simp[mW]
theorem Kc (s:aC) (hn:fK s.aB) (hg:s.aB.aA.length<=1048576) (ht:s.aB.ah.length<=1048576):aj Tryz.prog 96 [.bK (aw s)] (.bool (mE s)):=by
 refine aj.body ej rfl fun hl n0=>?_
 clear hl
 have h1:=(Kb s.aB hn hg ht).cut mixed (.ptr _ [.sl (s.aX.ah.map ad),.int .i64 s.az] .nil)
 by_cases hS:gW s.aB
 ·rw[lV.2 hS]at h1
  have h2:=(Ed s.aB s.aX.ah).cut mixed (.ptr _ [.sl (s.aX.ah.map ad),.int .i64 s.az] (.ptr _ [.int .i64 s.az] .nil))
  by_cases hA:jw s.aB s.aX.ah
  ·rw[lI.2 hA]at h2
   by_cases h0:(s.aX.ah.length:Int)=0
   ·have hd:decide ((s.aX.ah.length:Int)=0)=true:=decide_eq_true h0
    have kV:false=mE s:=jJ fun h=>by have:=h.some;omega
    generalize fy:(s.aX.ah.map ad).length=len at *
    (repeat(first|((repeat(revert hN;revert N;apply Pn.out));refine wk (tw @aw.eq_1 (tw @ab.eq_1 @hd)) ?_;(repeat(refine Pn.mk ?_;intro N hN)))|((try apply Or.inl);refine⟨_,aj.x (h1) (sd (tw @aw.eq_1 (tw @ab.eq_1 @hd))),?_⟩;refine hN _ _ ?_;clear hN N)|((try apply Or.inl);refine⟨_,aj.x (h2) (sd (tw @aw.eq_1 (tw @ab.eq_1 @hd))),?_⟩;refine hN _ _ ?_;clear hN N)))
    exact aI (b:=false) (.inl rfl) (sd @Nat.zero_add) kV
   ·have hd:decide ((s.aX.ah.length:Int)=0)=false:=decide_eq_false h0
    have h3:=rP s.az
    cases hT:iM s.az 1 16
    ·rw[hT]at h3
     (repeat(first|((repeat(revert hN;revert N;apply Pn.out));refine wk (tw @aw.eq_1 (tw @ab.eq_1 @hd)) ?_;(repeat(refine Pn.mk ?_;intro N hN)))|((try apply Or.inl);refine⟨_,aj.x (h1) (sd (tw @aw.eq_1 (tw @ab.eq_1 @hd))),?_⟩;refine hN _ _ ?_;clear hN N)|((try apply Or.inl);refine⟨_,aj.x (h2) (sd (tw @aw.eq_1 (tw @ab.eq_1 @hd))),?_⟩;refine hN _ _ ?_;clear hN N)|((try apply Or.inl);refine⟨_,aj.x (h3) (sd (tw @aw.eq_1 (tw @ab.eq_1 @hd))),?_⟩;refine hN _ _ ?_;clear hN N)))
     exact aI (b:=false) (.inl rfl) (sd @Nat.zero_add) (jJ fun h=>by have:=h.Nr;rw[hT]at this;cases this)
    ·rw[hT]at h3
     have h4:=(AP s.aB s.aX.ah s.az hS hA).cut mixed (.ptr _ [.sl (s.aX.ah.map ad),.int .i64 s.az] (.ptr _ [.int .i64 s.az] (.same _ .nil)))
     cases hB:mW s.aB s.aX.ah s.az
     ·rw[hB]at h4
      (repeat(first|((repeat(revert hN;revert N;apply Pn.out));refine wk (tw @aw.eq_1 (tw @ab.eq_1 @hd)) ?_;(repeat(refine Pn.mk ?_;intro N hN)))|((try apply Or.inl);refine⟨_,aj.x (h1) (sd (tw @aw.eq_1 (tw @ab.eq_1 @hd))),?_⟩;refine hN _ _ ?_;clear hN N)|((try apply Or.inl);refine⟨_,aj.x (h2) (sd (tw @aw.eq_1 (tw @ab.eq_1 @hd))),?_⟩;refine hN _ _ ?_;clear hN N)|((try apply Or.inl);refine⟨_,aj.x (h3) (sd (tw @aw.eq_1 (tw @ab.eq_1 @hd))),?_⟩;refine hN _ _ ?_;clear hN N)|((try apply Or.inl);refine⟨_,aj.x (h4) (sd (tw @aw.eq_1 (tw @ab.eq_1 @hd))),?_⟩;refine hN _ _ ?_;clear hN N)))
      exact aI (b:=false) (.inl rfl) (sd @Nat.zero_add) (jJ fun h=>by have:=oJ.2 h.holds;rw[hB]at this;cases this)
     ·have hP:=oJ.1 hB
      have hf:rq s.aB s.aX.ah s.az=0:=by
       have:=hP.1
       rw[rq,if_neg (by unfold ig;omega)]
      rw[hB,hf]at h4
      (repeat(first|((repeat(revert hN;revert N;apply Pn.out));refine wk (tw @aw.eq_1 (tw @ab.eq_1 @hd)) ?_;(repeat(refine Pn.mk ?_;intro N hN)))|((try apply Or.inl);refine⟨_,aj.x (h1) (sd (tw @aw.eq_1 (tw @ab.eq_1 @hd))),?_⟩;refine hN _ _ ?_;clear hN N)|((try apply Or.inl);refine⟨_,aj.x (h2) (sd (tw @aw.eq_1 (tw @ab.eq_1 @hd))),?_⟩;refine hN _ _ ?_;clear hN N)|((try apply Or.inl);refine⟨_,aj.x (h3) (sd (tw @aw.eq_1 (tw @ab.eq_1 @hd))),?_⟩;refine hN _ _ ?_;clear hN N)|((try apply Or.inl);refine⟨_,aj.x (h4) (sd (tw @aw.eq_1 (tw @ab.eq_1 @hd))),?_⟩;refine hN _ _ ?_;clear hN N)))
      exact aI (b:=true) (.inl rfl) (sd @Nat.zero_add) (Bg ⟨hS,hA,by omega,hT,hP⟩)
  ·have hb:oQ s.aB s.aX.ah=false:=Bool.eq_false_iff.2 fun h=>hA (lI.1 h)
   rw[hb]at h2
   (repeat(first|((repeat(revert hN;revert N;apply Pn.out));refine wk (tw @aw.eq_1 @ab.eq_1) ?_;(repeat(refine Pn.mk ?_;intro N hN)))|((try apply Or.inl);refine⟨_,aj.x (h1) (sd (tw @aw.eq_1 @ab.eq_1)),?_⟩;refine hN _ _ ?_;clear hN N)|((try apply Or.inl);refine⟨_,aj.x (h2) (sd (tw @aw.eq_1 @ab.eq_1)),?_⟩;refine hN _ _ ?_;clear hN N)))
   exact aI (b:=false) (.inl rfl) (sd @Nat.zero_add) (jJ fun h=>hA h.Bc)
 ·have hb:pZ s.aB=false:=Bool.eq_false_iff.2 fun h=>hS (lV.1 h)
  rw[hb]at h1
  (repeat(first|((repeat(revert hN;revert N;apply Pn.out));refine wk (tw @aw.eq_1 @ab.eq_1) ?_;(repeat(refine Pn.mk ?_;intro N hN)))|((try apply Or.inl);refine⟨_,aj.x (h1) (sd (tw @aw.eq_1 @ab.eq_1)),?_⟩;refine hN _ _ ?_;clear hN N)))
  exact aI (b:=false) (.inl rfl) (sd @Nat.zero_add) (jJ fun h=>hS h.set)
end Go.Proofs.YtgoelphibofcmaaGreat.V

namespace Go.Proofs.YtgoelphibofcmaaGreat.V
open Go.RowKit
attribute [local irreducible] dI wpOps ib Call
attribute [local go_sem] aJ gu eW gR gQ cE upd cw K.av cY AV.cells AV.cell rowOf rowsOf part ld rowAt bB cr dY eG jq bP dq eT gP fx dE eK dn dm eu ew bU bp db bR de dc eI eL eJ da cm dp eH bQ aO di cI jo bE cU bV aY du aV ea AV.undef bG bJ eA eE ei ep cJ eR eV cG eO eM dh dj List.getD_cons_zero List.getD_cons_succ List.getD_nil List.all_cons List.all_nil Bool.and_true Bool.true_and Bool.and_self Bool.not_true Bool.not_false Option.map_some Option.map_none Option.bind_some Option.bind_none List.length_cons List.length_nil List.take_succ_cons List.take_zero List.take_nil List.drop_succ_cons List.drop_zero List.drop_nil List.head?_cons List.map_cons List.map_nil List.getElem?_cons_zero List.getElem?_cons_succ List.cons_append List.nil_append List.append_nil List.length_map List.set_cons_zero List.set_cons_succ Nat.reduceMul eq_self Int.toNat_natCast Int.natCast_nonneg and_self true_and and_true decide_true decide_false Bool.false_eq_true Nat.zero_add Nat.add_zero List.contains_cons List.contains_nil Bool.or_false Bool.false_or beq_self_eq_true Nat.reduceBEq ne_eq not_true_eq_false not_false_eq_true Id.mk.injEq false_and and_false Nat.reduceLT Int.reduceLE Int.reduceLT Int.reduceToNat Int.reduceNeg Int.reduceAdd Nat.le_refl List.length_append beq_true beq_false Bool.not_eq_eq_eq_not or_false false_or eh ao aq aK br bI cC bc bz aQ bt cX cj
theorem KC {s:au} (hS:gW s) (a d:Int):0<=rZ s (cN (cP s a) d):=by
 have hF:=hS.form
 have fA:cN (cP s a) d=0∨(0<=cN (cP s a) d/\cN (cP s a) d<=s.aA.length):=by
  unfold cN cP
  rw[List.getD_eq_getElem?_getD,List.getD_eq_getElem?_getD]
  rcases ht:s.ah[a.toNat]? with _|t
  ·exact .inl (by simp[yV])
  ·have Pv:=List.mem_of_getElem? ht
   simp only[Option.getD_some]
   rcases hg:t.bH[d.toNat]? with _|g
   ·exact .inl rfl
   ·exact .inr (hF.ur t Pv g (List.mem_of_getElem? hg))
 unfold rZ
 by_cases h0:cN (cP s a) d=0
 ·rw[if_pos h0];omega
 ·rw[if_neg h0]
  have hk:(cN (cP s a) d-1).toNat<s.aA.length:=by omega
  have:=dP (hS.Qm _ hk).2.1
  unfold oU at this
  unfold pE
  omega
theorem tV {s:au} (hS:gW s) (a d b:Int):0<=gw s a d b/\gw s a d b<=4:=by
 refine⟨?_,zS hS a d b⟩
 unfold gw
 split
 ·exact KC hS a d
 ·omega
def dB (s:au) (f:ai->Int) (p:ai) (t:Int):Nat->Int
 |0=>0
 |d+1=>dB s f p t d+if 0<=f (bF p d)then gw s t d (f (bF p d))else 0
def nE (s:au) (f:ai->Int) (p:ai) (t:Int):Int:=dB s f p t 4
theorem jL {s:au} (hS:gW s) (f:ai->Int) (p:ai) (t:Int):∀d,0<=dB s f p t d/\dB s f p t d<=4*(d:Int)
 |0=>⟨Int.le_refl _,Int.le_refl _⟩
 |d+1=>by
  have:=jL hS f p t d
  have hb:=tV hS t d (f (bF p d))
  simp only[dB]
  split<;>omega
theorem zO {s:au} {l:List ae} (hA:jw s l) {p:ai} (h:0<=fG l p):ez s (fG l p)=true:=by
 unfold fG at h ⊢
 split at h
 ·rename_i h0
  rw[if_pos h0]
  exact hA.2 _ (gy (lj h0).1)
 ·omega
theorem yE (s:au) (hS:gW s) (l:List ae) (hA:jw s l) (p:ai) (hx:iB p.eB) (hy:iB p.ek) (t:Int) (ht:ez s t=true):aj Tryz.prog 138 [.bK (ab s),.bK [.sl (l.map ad)],.agg (aa p),.int .i64 t] (.int .i64 (nE s (fG l) p t)):=by
 refine aj.body ej rfl fun hl n0=>?_
 clear hl
 have hR:=hA.1.FQ
 have E5:l.length<=1048576:=by have:=hA.1.so;omega
 (try((repeat(revert hN;revert N;apply Pn.out));refine wk @aa.eq_1 ?_;(repeat(refine Pn.mk ?_;intro N hN))))
 refine aH (fun n env st=>∃k:Nat,n=(4)-k/\k<=(4)/\env 10=.int .i64 (k:Int)/\env 9=.int .i64 (dB s (fG l) p t k)/\st.get ⟨138000000,n0⟩=some ⟨true,2,[aa p]⟩) (4) ⟨0,by omega,by omega,sl @aa.eq_1,sl @aa.eq_1,sl @aa.eq_1⟩ ?_
 rintro n_a env_a st_a ⟨k,rfl,ale,wR,a9,ag0⟩ dt
 have a0:=dt 0 (by kernel_rfl);have a1:=dt 1 (by kernel_rfl);have a3:=dt 3 (by kernel_rfl);have a6:=dt 6 (by kernel_rfl)
 simp only[go_sem, ↓reduceIte,Nat.reduceEqDiff,Nat.reduceAdd,Nat.reduceSub,Nat.reduceLeDiff,reduceCtorEq,aa]at a0 a1 a3 a6
 clear dt
 by_cases hk:(k:Int)<4
 ·have bY:∀{e:Env} {gg:Rows},(e 10=.int .i64 (IntKind.i64.wrap ((k:Int)+1)))->(e 9=.int .i64 (dB s (fG l) p t (k+1)))->(gg ⟨138000000,n0⟩=some ⟨true,2,[aa p]⟩)->∃m0,m0<(4)-k/\∃k:Nat,m0=(4)-k/\k<=(4)/\e 10=.int .i64 (k:Int)/\e 9=.int .i64 (dB s (fG l) p t k)/\gg ⟨138000000,n0⟩=some ⟨true,2,[aa p]⟩:=fun x1 x2 x3=>⟨_,by omega,k+1,rfl,by omega,(by rw[x1,ax (by omega)]),x2,x3⟩
  have cK:=rO p k (jc (by omega)) hx hy
  have vW:=tC l (bF p k) hR E5
  have fA:=jL hS (fG l) p t k
  by_cases h0:0<=fG l (bF p k)
  ·have s6:=xu s hS.form t k (fG l (bF p k)) ht (zO hA h0) (jc (by omega))
   have ft:=tV hS t k (fG l (bF p k))
   have hw:IntKind.i64.wrap (dB s (fG l) p t k+gw s t k (fG l (bF p k)))=dB s (fG l) p t (k+1):=by
    rw[aZ (by omega),dB,if_pos h0]
   (repeat(first|((repeat(revert hN;revert N;apply Pn.out));refine wk (tw @wR (tw @a9 (tw @ag0 (tw @a0 (tw @a1 (tw @a3 (tw @a6 (tw @hk (tw @h0 @aa.eq_1))))))))) ?_;(repeat(refine Pn.mk ?_;intro N hN)))|((try apply Or.inl);refine⟨_,aj.x (cK) (sd (tw @wR (tw @a9 (tw @ag0 (tw @a0 (tw @a1 (tw @a3 (tw @a6 (tw @hk (tw @h0 @aa.eq_1)))))))))),?_⟩;refine hN _ _ ?_;clear hN N)|((try apply Or.inl);refine⟨_,aj.x (vW) (sd (tw @wR (tw @a9 (tw @ag0 (tw @a0 (tw @a1 (tw @a3 (tw @a6 (tw @hk (tw @h0 @aa.eq_1)))))))))),?_⟩;refine hN _ _ ?_;clear hN N)|((try apply Or.inl);refine⟨_,aj.x (s6) (sd (tw @wR (tw @a9 (tw @ag0 (tw @a0 (tw @a1 (tw @a3 (tw @a6 (tw @hk (tw @h0 @aa.eq_1)))))))))),?_⟩;refine hN _ _ ?_;clear hN N)))
   refine bY ?_ ?_ ?_
   all_goals simp only[go_sem, ↓reduceIte,Nat.reduceEqDiff,Nat.reduceAdd,Nat.reduceSub,Nat.reduceLeDiff,reduceCtorEq,wR,a9,ag0,a0,a1,a3,a6,hw,aa]
  ·have hw:dB s (fG l) p t (k+1)=dB s (fG l) p t k:=by rw[dB,if_neg h0,Int.add_zero]
   (repeat(first|((repeat(revert hN;revert N;apply Pn.out));refine wk (tw @wR (tw @a9 (tw @ag0 (tw @a0 (tw @a1 (tw @a3 (tw @a6 (tw @hk (tw @h0 @aa.eq_1))))))))) ?_;(repeat(refine Pn.mk ?_;intro N hN)))|((try apply Or.inl);refine⟨_,aj.x (cK) (sd (tw @wR (tw @a9 (tw @ag0 (tw @a0 (tw @a1 (tw @a3 (tw @a6 (tw @hk (tw @h0 @aa.eq_1)))))))))),?_⟩;refine hN _ _ ?_;clear hN N)|((try apply Or.inl);refine⟨_,aj.x (vW) (sd (tw @wR (tw @a9 (tw @ag0 (tw @a0 (tw @a1 (tw @a3 (tw @a6 (tw @hk (tw @h0 @aa.eq_1)))))))))),?_⟩;refine hN _ _ ?_;clear hN N)))
   refine bY ?_ ?_ ?_
   all_goals simp only[go_sem, ↓reduceIte,Nat.reduceEqDiff,Nat.reduceAdd,Nat.reduceSub,Nat.reduceLeDiff,reduceCtorEq,wR,a9,ag0,a0,a1,a3,a6,hw,aa]
 ·(try((repeat(revert hN;revert N;apply Pn.out));refine wk (tw @wR (tw @a9 (tw @ag0 (tw @a0 (tw @a1 (tw @a3 (tw @a6 @hk))))))) ?_;(repeat(refine Pn.mk ?_;intro N hN))))
  exact bj (b:=dB s (fG l) p t k) (.inl rfl) (sd (tw @wR (tw @a9 (tw @ag0 (tw @a0 (tw @a1 (tw @a3 @a6))))))) (by rw[show k=4 by omega];rfl)
def kd (la lb:List ae):Bool:=la.all fun t=>decide (fG lb t.aF=t.aN)
theorem AL (la lb:List ae) (hR:tP lb) (E5:lb.length<=1048576) (h81:la.length<=1048576):aj Tryz.prog 59 [.bK [.sl (la.map ad)],.bK [.sl (lb.map ad)]] (.bool (kd la lb)):=by
 refine aj.body ej rfl fun hl n0=>?_
 clear hl
 (try((repeat(revert hN;revert N;apply Pn.out));refine wk @Nat.zero_add ?_;(repeat(refine Pn.mk ?_;intro N hN))))
 refine aH (fun n env st=>∃k:Nat,n=(la.length)-k/\k<=(la.length)/\env 5=.int .i64 (k:Int)/\(∀j:Nat,j<k->fG lb (aG la j).aF=(aG la j).aN)) (la.length) ⟨0,by omega,by omega,sl @Nat.zero_add,fun _ h=>absurd h (Nat.not_lt_zero _)⟩ ?_
 rintro n_a env_a st_a ⟨k,rfl,ale,a5,kO⟩ dt
 have a0:=dt 0 (by kernel_rfl);have a1:=dt 1 (by kernel_rfl)
 simp only[go_sem, ↓reduceIte,Nat.reduceEqDiff,Nat.reduceAdd,Nat.reduceSub,Nat.reduceLeDiff,reduceCtorEq]at a0 a1
 clear dt
 by_cases hk:(k:Int)<(la.length:Int)
 ·have bY:∀{e:Env},(e 5=.int .i64 (IntKind.i64.wrap ((k:Int)+1)))->(fG lb (aG la k).aF=(aG la k).aN)->∃m0,m0<(la.length)-k/\∃k:Nat,m0=(la.length)-k/\k<=(la.length)/\e 5=.int .i64 (k:Int)/\(∀j:Nat,j<k->fG lb (aG la j).aF=(aG la j).aN):=fun x1 x2=>⟨_,by omega,k+1,rfl,by omega,(by rw[x1,ax (by omega)]),(all_succ kO x2)⟩
  have eZ:k<la.length:=by omega
  have eo:=fh eZ
  have vW:=tC lb (aG la k).aF hR E5
  by_cases h0:fG lb (aG la k).aF=(aG la k).aN
  ·have hd:decide (fG lb (aG la k).aF=(aG la k).aN)=true:=decide_eq_true h0
   (repeat(first|((repeat(revert hN;revert N;apply Pn.out));refine wk (tw @a5 (tw @a0 (tw @a1 (tw @hk (tw @eo (tw @hd (tw @ad.eq_1 @aa.eq_1))))))) ?_;(repeat(refine Pn.mk ?_;intro N hN)))|((try apply Or.inl);refine⟨_,aj.x (vW) (sd (tw @a5 (tw @a0 (tw @a1 (tw @hk (tw @eo (tw @hd (tw @ad.eq_1 @aa.eq_1)))))))),?_⟩;refine hN _ _ ?_;clear hN N)))
   exact bY (sd (tw @a5 (tw @a0 @a1))) (h0)
  ·have hd:decide (fG lb (aG la k).aF=(aG la k).aN)=false:=decide_eq_false h0
   (repeat(first|((repeat(revert hN;revert N;apply Pn.out));refine wk (tw @a5 (tw @a0 (tw @a1 (tw @hk (tw @eo (tw @hd (tw @ad.eq_1 @aa.eq_1))))))) ?_;(repeat(refine Pn.mk ?_;intro N hN)))|((try apply Or.inl);refine⟨_,aj.x (vW) (sd (tw @a5 (tw @a0 (tw @a1 (tw @hk (tw @eo (tw @hd (tw @ad.eq_1 @aa.eq_1)))))))),?_⟩;refine hN _ _ ?_;clear hN N)))
   exact aI (b:=false) (.inl rfl) (sd @Nat.zero_add) (List.all_eq_false.2 ⟨_,gy eZ,by rw[hd];simp⟩).symm
 ·(try((repeat(revert hN;revert N;apply Pn.out));refine wk (tw @a5 (tw @a0 (tw @a1 @hk))) ?_;(repeat(refine Pn.mk ?_;intro N hN))))
  exact aI (b:=true) (.inl rfl) (sd @Nat.zero_add) (List.all_eq_true.2 fun t ht=>by
   obtain⟨j,hj,rfl⟩:=List.getElem_of_mem ht
   have:=kO j (by omega)
   rw[iE hj]at this
   exact decide_eq_true this).symm
theorem FA (s:aC) (hA:jw s.aB s.aX.ah) (x:ae):aj Tryz.prog 111 [.bK (aw s),.agg (ad x)] (.bool (decide (fG s.aX.ah x.aF=x.aN))):=by
 refine aj.body ej rfl fun hl n0=>?_
 clear hl
 have vW:=(tC s.aX.ah x.aF hA.1.FQ (by have:=hA.1.so;omega)).cut mixed (.ptr _ [.int .i64 s.az] (.same _ .nil))
 (repeat(first|((repeat(revert hN;revert N;apply Pn.out));refine wk (tw @aw.eq_1 (tw @ad.eq_1 @aa.eq_1)) ?_;(repeat(refine Pn.mk ?_;intro N hN)))|((try apply Or.inl);refine⟨_,aj.x (vW) (sd (tw @aw.eq_1 (tw @ad.eq_1 @aa.eq_1))),?_⟩;refine hN _ _ ?_;clear hN N)))
 exact aI (b:=decide (fG s.aX.ah x.aF=x.aN)) (.inl rfl) (sd @Nat.zero_add) rfl
noncomputable def qg (s:aC) (l:List ae):Bool:=mE s&&oQ s.aB l
theorem CJ (s:aC) (l:List ae) (hn:fK s.aB) (hg:s.aB.aA.length<=1048576) (ht:s.aB.ah.length<=1048576):aj Tryz.prog 58 [.bK (aw s),.bK [.sl (l.map ad)]] (.int .i64 (if qg s l then 0 else 1)):=by
 refine aj.body ej rfl fun hl n0=>?_
 clear hl
 have h1:=Kc s hn hg ht
 have h2:=(Ed s.aB l).cut mixed (.ptr _ [.sl (s.aX.ah.map ad),.int .i64 s.az] (.same _ .nil))
 cases b1:mE s
 ·rw[b1]at h1
  (repeat(first|((repeat(revert hN;revert N;apply Pn.out));refine wk @Nat.zero_add ?_;(repeat(refine Pn.mk ?_;intro N hN)))|((try apply Or.inl);refine⟨_,aj.x (h1) (sd @Nat.zero_add),?_⟩;refine hN _ _ ?_;clear hN N)))
  exact bj (b:=1) (.inl rfl) (sd @Nat.zero_add) (by rw[qg,b1];rfl)
 rw[b1]at h1
 rw[aw]at h1 ⊢
 cases b2:oQ s.aB l
 ·rw[b2]at h2
  (repeat(first|((repeat(revert hN;revert N;apply Pn.out));refine wk @ab.eq_1 ?_;(repeat(refine Pn.mk ?_;intro N hN)))|((try apply Or.inl);refine⟨_,aj.x (h1) (sd @ab.eq_1),?_⟩;refine hN _ _ ?_;clear hN N)|((try apply Or.inl);refine⟨_,aj.x (h2) (sd @ab.eq_1),?_⟩;refine hN _ _ ?_;clear hN N)))
  exact bj (b:=1) (.inl rfl) (sd @Nat.zero_add) (by rw[qg,b1,b2];rfl)
 ·rw[b2]at h2
  (repeat(first|((repeat(revert hN;revert N;apply Pn.out));refine wk @ab.eq_1 ?_;(repeat(refine Pn.mk ?_;intro N hN)))|((try apply Or.inl);refine⟨_,aj.x (h1) (sd @ab.eq_1),?_⟩;refine hN _ _ ?_;clear hN N)|((try apply Or.inl);refine⟨_,aj.x (h2) (sd @ab.eq_1),?_⟩;refine hN _ _ ?_;clear hN N)))
  exact bj (b:=0) (.inl rfl) (sd @Nat.zero_add) (by rw[qg,b1,b2];rfl)
theorem qh {s:aC} {l:List ae}:qg s l=true↔wb s/\jw s.aB l:=by simp[qg,vJ,lI]
noncomputable def iN (s:aC) (l:List ae):Int:=if qg s l then(if kd s.aX.ah l then 0 else 2)else 1
theorem Fz (s:aC) (l:List ae) (hn:fK s.aB) (hg:s.aB.aA.length<=1048576) (ht:s.aB.ah.length<=1048576):aj Tryz.prog 67 [.bK (aw s),.bK [.sl (l.map ad)]] (.int .i64 (iN s l)):=by
 refine aj.body ej rfl fun hl n0=>?_
 clear hl
 have h1:=CJ s l hn hg ht
 cases b1:qg s l
 ·rw[b1]at h1
  (repeat(first|((repeat(revert hN;revert N;apply Pn.out));refine wk @Nat.zero_add ?_;(repeat(refine Pn.mk ?_;intro N hN)))|((try apply Or.inl);refine⟨_,aj.x (h1) (sd @Nat.zero_add),?_⟩;refine hN _ _ ?_;clear hN N)))
  exact bj (b:=1) (.inl rfl) (sd @Nat.zero_add) (by rw[iN,b1];rfl)
 obtain⟨hP,hA⟩:=qh.1 b1
 have h2:=(AL s.aX.ah l hA.1.FQ (by have:=hA.1.so;omega) (by have:=hP.Bc.1.so;omega)).cut mixed (.ptr _ [.int .i64 s.az] (.same _ .nil))
 rw[b1]at h1
 rw[aw]at h1 ⊢
 cases b2:kd s.aX.ah l
 ·rw[b2]at h2
  (repeat(first|((repeat(revert hN;revert N;apply Pn.out));refine wk @Nat.zero_add ?_;(repeat(refine Pn.mk ?_;intro N hN)))|((try apply Or.inl);refine⟨_,aj.x (h1) (sd @Nat.zero_add),?_⟩;refine hN _ _ ?_;clear hN N)|((try apply Or.inl);refine⟨_,aj.x (h2) (sd @Nat.zero_add),?_⟩;refine hN _ _ ?_;clear hN N)))
  exact bj (b:=2) (.inl rfl) (sd @Nat.zero_add) (by rw[iN,b1,b2];rfl)
 ·rw[b2]at h2
  (repeat(first|((repeat(revert hN;revert N;apply Pn.out));refine wk @Nat.zero_add ?_;(repeat(refine Pn.mk ?_;intro N hN)))|((try apply Or.inl);refine⟨_,aj.x (h1) (sd @Nat.zero_add),?_⟩;refine hN _ _ ?_;clear hN N)|((try apply Or.inl);refine⟨_,aj.x (h2) (sd @Nat.zero_add),?_⟩;refine hN _ _ ?_;clear hN N)))
  exact bj (b:=0) (.inl rfl) (sd @Nat.zero_add) (by rw[iN,b1,b2];rfl)
def j3 (s:aC) (l:List ae) (p:ai) (t:Int):Bool:=decide (t≠fG l p)&&decide (s.az<=nE s.aB (fG l) p t)
def hZ (s:aC) (l:List ae) (p:ai):Int:=match (List.range s.aB.ah.length).find? fun k:Nat=>j3 s l p k with
 |some k=>k
 |none=>-1
theorem Cd {f:Nat->Bool} {n k:Nat} (h1:k<n) (h2:f k=true) (h3:∀j,j<k->f j=false):(List.range n).find? f=some k:=by
 rw[List.find?_range_eq_some]
 exact⟨h2,List.mem_range.2 h1,fun j hj=>by rw[h3 j hj];rfl⟩
theorem sY {f:Nat->Bool} {n:Nat} (h:∀j,j<n->f j=false):(List.range n).find? f=none:=by
 rw[List.find?_range_eq_none]
 exact fun j hj=>by rw[h j hj];rfl
theorem vN {s:au} {k:Nat} (h:k<s.ah.length):ez s k=true:=by
 unfold ez;exact jc (by omega)
theorem CL (s:aC) (hP:wb s) (l:List ae) (hA:jw s.aB l) (p:ai) (hx:iB p.eB) (hy:iB p.ek):aj Tryz.prog 113 [.bK (aw s),.bK [.sl (l.map ad)],.agg (aa p)] (.int .i64 (hZ s l p)):=by
 refine aj.body ej rfl fun hl n0=>?_
 clear hl
 have Jg:=hP.set.Bj
 have vW:=tC l p hA.1.FQ (by have:=hA.1.so;omega)
 (repeat(first|((repeat(revert hN;revert N;apply Pn.out));refine wk (tw @aw.eq_1 @aa.eq_1) ?_;(repeat(refine Pn.mk ?_;intro N hN)))|((try apply Or.inl);refine⟨_,aj.x (vW) (sd (tw @aw.eq_1 @aa.eq_1)),?_⟩;refine hN _ _ ?_;clear hN N)))
 refine aH (fun n env st=>∃k:Nat,n=(s.aB.ah.length)-k/\k<=(s.aB.ah.length)/\env 8=.int .i64 (k:Int)/\st.get ⟨113000000,n0⟩=some ⟨true,2,[aa p]⟩/\(∀j:Nat,j<k->j3 s l p (j:Nat)=false)) (s.aB.ah.length) ⟨0,by omega,by omega,sl (tw @aa.eq_1 @aw.eq_1),sl (tw @aa.eq_1 @aw.eq_1),fun _ h=>absurd h (Nat.not_lt_zero _)⟩ ?_
 rintro n_a env_a st_a ⟨k,rfl,ale,a8,ag0,kO⟩ dt
 have a0:=dt 0 (by kernel_rfl);have a1:=dt 1 (by kernel_rfl);have a5:=dt 5 (by kernel_rfl);have a7:=dt 7 (by kernel_rfl)
 simp only[go_sem, ↓reduceIte,Nat.reduceEqDiff,Nat.reduceAdd,Nat.reduceSub,Nat.reduceLeDiff,reduceCtorEq,aa,aw]at a0 a1 a5 a7
 clear dt
 by_cases hk:(k:Int)<(s.aB.ah.length:Int)
 ·have bY:∀{e:Env} {gg:Rows},(e 8=.int .i64 (IntKind.i64.wrap ((k:Int)+1)))->(gg ⟨113000000,n0⟩=some ⟨true,2,[aa p]⟩)->(j3 s l p (k:Nat)=false)->∃m0,m0<(s.aB.ah.length)-k/\∃k:Nat,m0=(s.aB.ah.length)-k/\k<=(s.aB.ah.length)/\e 8=.int .i64 (k:Int)/\gg ⟨113000000,n0⟩=some ⟨true,2,[aa p]⟩/\(∀j:Nat,j<k->j3 s l p (j:Nat)=false):=fun x1 x2 x3=>⟨_,by omega,k+1,rfl,by omega,(by rw[x1,ax (by omega)]),x2,(all_succ kO x3)⟩
  have eZ:k<s.aB.ah.length:=by omega
  have s6:=(yE s.aB hP.set l hA p hx hy k (vN eZ)).cut mixed (.ptr _ [.sl (s.aX.ah.map ad),.int .i64 s.az] (.same _ (.same _ (.same _ .nil))))
  by_cases h0:(k:Int)=fG l p
  ·have hd:decide ((k:Int)=fG l p)=true:=decide_eq_true h0
   (try((repeat(revert hN;revert N;apply Pn.out));refine wk (tw @a8 (tw @ag0 (tw @a0 (tw @a1 (tw @a5 (tw @a7 (tw @hk (tw @hd @aa.eq_1)))))))) ?_;(repeat(refine Pn.mk ?_;intro N hN))))
   refine bY ?_ ?_ (by rw[j3,h0];simp)
   all_goals simp only[go_sem, ↓reduceIte,Nat.reduceEqDiff,Nat.reduceAdd,Nat.reduceSub,Nat.reduceLeDiff,reduceCtorEq,a8,ag0,a0,a1,a5,a7,aa]
  ·have hd:decide ((k:Int)=fG l p)=false:=decide_eq_false h0
   by_cases h1:s.az<=nE s.aB (fG l) p k
   ·(repeat(first|((repeat(revert hN;revert N;apply Pn.out));refine wk (tw @a8 (tw @ag0 (tw @a0 (tw @a1 (tw @a5 (tw @a7 (tw @hk (tw @hd (tw @h1 (tw @ab.eq_1 @aa.eq_1)))))))))) ?_;(repeat(refine Pn.mk ?_;intro N hN)))|((try apply Or.inl);refine⟨_,aj.x (s6) (sd (tw @a8 (tw @ag0 (tw @a0 (tw @a1 (tw @a5 (tw @a7 (tw @hk (tw @hd (tw @h1 (tw @ab.eq_1 @aa.eq_1))))))))))),?_⟩;refine hN _ _ ?_;clear hN N)))
    exact bj (b:=(k:Int)) (.inl rfl) (sd @Nat.zero_add) (by rw[hZ,Cd eZ (by simp[j3,h0,h1]) kO])
   ·(repeat(first|((repeat(revert hN;revert N;apply Pn.out));refine wk (tw @a8 (tw @ag0 (tw @a0 (tw @a1 (tw @a5 (tw @a7 (tw @hk (tw @hd (tw @h1 (tw @ab.eq_1 @aa.eq_1)))))))))) ?_;(repeat(refine Pn.mk ?_;intro N hN)))|((try apply Or.inl);refine⟨_,aj.x (s6) (sd (tw @a8 (tw @ag0 (tw @a0 (tw @a1 (tw @a5 (tw @a7 (tw @hk (tw @hd (tw @h1 (tw @ab.eq_1 @aa.eq_1))))))))))),?_⟩;refine hN _ _ ?_;clear hN N)))
    refine bY ?_ ?_ (by simp[j3,h1])
    all_goals simp only[go_sem, ↓reduceIte,Nat.reduceEqDiff,Nat.reduceAdd,Nat.reduceSub,Nat.reduceLeDiff,reduceCtorEq,a8,ag0,a0,a1,a5,a7,aa]
 ·(try((repeat(revert hN;revert N;apply Pn.out));refine wk (tw @a8 (tw @ag0 (tw @a0 (tw @a1 (tw @a5 (tw @a7 @hk)))))) ?_;(repeat(refine Pn.mk ?_;intro N hN))))
  exact bj (b:=-1) (.inl rfl) (sd @Nat.zero_add) (by rw[hZ,sY fun j hj=>kO j (by omega)])
theorem Rh {s:au} {l:List ae} (hA:jw s l) (p:ai):fG l p<0↔dZ l p<0:=by
 constructor
 ·intro h
  rcases Int.lt_or_le (dZ l p) 0 with h0|h0
  ·exact h0
  ·exfalso
   obtain⟨h1,_⟩:=lj h0
   have h2:=(dP (hA.2 _ (gy h1))).1
   rw[fG,if_pos h0]at h
   omega
 ·intro h
  rw[fG,if_neg (by omega)];omega
end Go.Proofs.YtgoelphibofcmaaGreat.V

namespace Go.Proofs.YtgoelphibofcmaaGreat.V
open Go.RowKit
attribute [local irreducible] dI wpOps ib Call
attribute [local go_sem] aJ gu eW gR gQ cE upd cw K.av cY AV.cells AV.cell rowOf rowsOf part ld rowAt bB cr dY eG jq bP dq eT gP fx dE eK dn dm eu ew bU bp db bR de dc eI eL eJ da cm dp eH bQ aO di cI jo bE cU bV aY du aV ea AV.undef bG bJ eA eE ei ep cJ eR eV cG eO eM dh dj List.getD_cons_zero List.getD_cons_succ List.getD_nil List.all_cons List.all_nil Bool.and_true Bool.true_and Bool.and_self Bool.not_true Bool.not_false Option.map_some Option.map_none Option.bind_some Option.bind_none List.length_cons List.length_nil List.take_succ_cons List.take_zero List.take_nil List.drop_succ_cons List.drop_zero List.drop_nil List.head?_cons List.map_cons List.map_nil List.getElem?_cons_zero List.getElem?_cons_succ List.cons_append List.nil_append List.append_nil List.length_map List.set_cons_zero List.set_cons_succ Nat.reduceMul eq_self Int.toNat_natCast Int.natCast_nonneg and_self true_and and_true decide_true decide_false Bool.false_eq_true Nat.zero_add Nat.add_zero List.contains_cons List.contains_nil Bool.or_false Bool.false_or beq_self_eq_true Nat.reduceBEq ne_eq not_true_eq_false not_false_eq_true Id.mk.injEq false_and and_false Nat.reduceLT Int.reduceLE Int.reduceLT Int.reduceToNat Int.reduceNeg Int.reduceAdd Nat.le_refl List.length_append beq_true beq_false Bool.not_eq_eq_eq_not or_false false_or eh ao aq aK br bI cC bc bz aQ bt cX cj
abbrev mP:MK:=⟨true,[.tI,.tI]⟩
theorem AU (p:ai):∀(ts:List ae) (i:Nat),fP mP (aa p) (ts.map ad) i=some (if pN ts p<ts.length then some (i+pN ts p)else none)
 |[],i=>by simp[fP,pN]
 |t::ts,i=>by
  have e:fx mP.ts (aa p) ((ad t).take mP.ks)=some (decide (p=t.aF)):=by
   have h:(p=t.aF)↔(p.eB=t.aF.eB/\p.ek=t.aF.ek):=⟨fun h=>by rw[h];exact⟨rfl,rfl⟩,fun h=>yZ h.1 h.2⟩
   simp[MK.ks,aa,ad,fx,gP,h]
  have ih:=AU p ts (i+1)
  rw[List.map_cons]
  unfold fP
  rw[e]
  by_cases h:p=t.aF
  ·rw[decide_eq_true h]
   have h0:pN (t::ts) p=0:=by simp[pN,List.findIdx_cons,h]
   simp[h0]
  ·rw[decide_eq_false h]
   have h0:pN (t::ts) p=pN ts p+1:=by
    simp[pN,List.findIdx_cons,Ne.symm h]
   simp only[ih,h0,List.length_cons,Nat.add_lt_add_iff_right]
   congr 1
   split<;>simp;omega
theorem xD (ts:List ae) (p:ai):fF mP (.agg [.int .i64 p.eB,.int .i64 p.ek]) (ts.map ad)=some (if 0<=dZ ts p then some (dZ ts p).toNat else none):=by
 have h:=AU p ts 0
 unfold fF
 rw[if_pos ⟨rfl,rfl,rfl⟩]
 show fP mP (aa p) _ 0= _
 rw[h]
 unfold dZ
 split<;>simp
theorem FF {ts:List ae} {p:ai} (h:0<=dZ ts p):fF mP (.agg [.int .i64 p.eB,.int .i64 p.ek]) (ts.map ad)=some (some (dZ ts p).toNat):=by rw[xD,if_pos h]
theorem uR {ts:List ae} {p:ai} (h:dZ ts p<0):fF mP (.agg [.int .i64 p.eB,.int .i64 p.ek]) (ts.map ad)=some none:=by rw[xD,if_neg (by omega)]
structure Bw (g:Rows) (n:Nat) (c T O:Id) (s:aC) (ts:List ae):Prop where
 row:∃b,g c=some ⟨b,6,[[.sl (s.aB.aA.map bW),.sl (s.aB.ah.map bd),.sl (s.aX.ah.map ad),.int .i64 s.az,.map T mP,.map O mP]]⟩
 tl:∃b,g T=some ⟨b,mP.nv,ts.map ad⟩
 cv:c.aW<n
 tv:T.aW<n
 ov:O.aW<n
theorem Bw.ro {g:Rows} {n:Nat} {c T O:Id} {s:aC} {ts:List ae} (h:Bw g n c T O s ts):Bw (V.ro g) n c T O s ts:=by
 obtain⟨b,h1⟩:=h.row
 obtain⟨b2,h2⟩:=h.tl
 exact⟨⟨false,by simp[V.ro,h1]⟩,⟨false,by simp[V.ro,h2]⟩,h.cv,h.tv,h.ov⟩
theorem Bw.frame {g g':Rows} {n n':Nat} {c T O:Id} {s:aC} {ts:List ae} (h:Bw g n c T O s ts) (hn:n<=n') (hc:g' c=g c) (hT:g' T=g T):Bw g' n' c T O s ts:=
 ⟨by rw[hc];exact h.row,by rw[hT];exact h.tl,Nat.lt_of_lt_of_le h.cv hn,Nat.lt_of_lt_of_le h.tv hn,Nat.lt_of_lt_of_le h.ov hn⟩
theorem Ri {σ:ar} {c T O:Id} {s:aC} {ts:List ae} (h:Bw σ.get σ.next c T O s ts) (p:ai):Call Tryz.prog 121 [.ptr c 0 0,.agg (aa p)] σ (fun r _=>r=.int .i64 (fG ts p)):=by
 refine gT ej rfl fun mm=>?_
 clear mm
 obtain⟨b,h1⟩:=h.row
 obtain⟨b2,h2⟩:=h.tl
 have v1:=dv h.cv
 have v2:=dv h.tv
 by_cases h0:0<=dZ ts p
 ·have hm:=FF h0
  have hg:=fh (lj h0).1
  have ho:(some (dZ ts p).toNat).isSome=true:=rfl
  (try((repeat(revert hN;revert N;apply Pn.out));refine wk (tw @h1 (tw @h2 (tw @v1 (tw @v2 (tw @hm (tw @hg (tw @ho (tw @aa.eq_1 @ad.eq_1)))))))) ?_;(repeat(refine Pn.mk ?_;intro N hN))))
  exact gD (.inl rfl) (vs:=[.int .i64 (aG ts (dZ ts p).toNat).aN]) (sd @Nat.zero_add) (by rw[fG,if_pos h0];rfl)
 ·have hm:=uR (ts:=ts) (p:=p) (by omega)
  have ho:(none:Option Nat).isSome=false:=rfl
  (try((repeat(revert hN;revert N;apply Pn.out));refine wk (tw @h1 (tw @h2 (tw @v1 (tw @v2 (tw @hm (tw @ho @aa.eq_1)))))) ?_;(repeat(refine Pn.mk ?_;intro N hN))))
  exact gD (.inl rfl) (vs:=[.int .i64 (-1)]) (sd @Nat.zero_add) (by rw[fG,if_neg h0];rfl)
theorem LP {σ:ar} {c T O:Id} {s:aC} {ts:List ae} (h:Bw σ.get σ.next c T O s ts) (p:ai):ib (Call Tryz.prog) 121 [.ptr c 0 0,.agg (aa p)] σ (fun r=>r=.int .i64 (fG ts p)):=by
 unfold ib PC
 exact Or.inl (aU _ _ _ _ _ (fun r σ' hr=>⟨_,by rw[hr];exact aK _ _ _ _,rfl⟩) (Ri (σ:=⟨V.ro σ.get,σ.next⟩) h.ro p))
theorem EI {σ:ar} (s:au) (hS:gW s) (F:ai->Int) (hF:∀q,0<=F q->ez s (F q)=true) (p:ai) (hx:iB p.eB) (hy:iB p.ek) (t:Int) (ht:ez s t=true) (f:Nat) (first:List AV)
  (vW:∀σ':ar,σ.next<=σ'.next->(∀x:Id,x.aW<σ.next->σ'.get x=σ.get x)->∀q,ib (Call Tryz.prog) f (first++[.agg (aa q)]) σ' (fun r=>r=.int .i64 (F q))):
  Call Tryz.prog 120 [.agg (ab s),.agg (aa p),.int .i64 t,.tb f first] σ (fun r _=>r=.int .i64 (nE s F p t)):=by
 refine gT ej rfl fun mm=>?_
 clear mm
 (try((repeat(revert hN;revert N;apply Pn.out));refine wk (tw @aa.eq_1 @ab.eq_1) ?_;(repeat(refine Pn.mk ?_;intro N hN))))
 refine aH (fun n env st=>∃k:Nat,n=(4)-k/\k<=(4)/\env 12=.int .i64 (k:Int)/\env 9=.int .i64 (dB s F p t k)/\st.get ⟨120000000,σ.next⟩=some ⟨true,2,[ab s]⟩/\st.get ⟨120000001,σ.next⟩=some ⟨true,2,[aa p]⟩/\(σ.next<st.next/\∀x:Id,x.aW<σ.next->st.get x=σ.get x)) (4) ⟨0,by omega,by omega,sl (tw @aa.eq_1 @ab.eq_1),sl (tw @aa.eq_1 @ab.eq_1),sl (tw @aa.eq_1 @ab.eq_1),sl (tw @aa.eq_1 @ab.eq_1),⟨by(try dsimp only);omega,fun x hx=>by
  have:=dv hx
  simp only[go_sem, ↓reduceIte,Nat.reduceEqDiff,Nat.reduceAdd,Nat.reduceSub,Nat.reduceLeDiff,reduceCtorEq,this]⟩⟩ ?_
 rintro n_a env_a st_a ⟨k,rfl,ale,a12,a9,ag0,ag1,nf⟩ dt
 have a2:=dt 2 (by kernel_rfl);have a3:=dt 3 (by kernel_rfl);have a4:=dt 4 (by kernel_rfl);have a5:=dt 5 (by kernel_rfl)
 simp only[go_sem, ↓reduceIte,Nat.reduceEqDiff,Nat.reduceAdd,Nat.reduceSub,Nat.reduceLeDiff,reduceCtorEq,aa,ab]at a2 a3 a4 a5
 clear dt
 obtain⟨an,dt⟩:=nf
 by_cases hk:(k:Int)<4
 ·have bY:∀{e:Env} {gg:Rows} {nx:Nat},(e 12=.int .i64 (IntKind.i64.wrap ((k:Int)+1)))->(e 9=.int .i64 (dB s F p t (k+1)))->(gg ⟨120000000,σ.next⟩=some ⟨true,2,[ab s]⟩)->(gg ⟨120000001,σ.next⟩=some ⟨true,2,[aa p]⟩)->(σ.next<nx/\∀x:Id,x.aW<σ.next->gg x=σ.get x)->∃m0,m0<(4)-k/\∃k:Nat,m0=(4)-k/\k<=(4)/\e 12=.int .i64 (k:Int)/\e 9=.int .i64 (dB s F p t k)/\gg ⟨120000000,σ.next⟩=some ⟨true,2,[ab s]⟩/\gg ⟨120000001,σ.next⟩=some ⟨true,2,[aa p]⟩/\(σ.next<nx/\∀x:Id,x.aW<σ.next->gg x=σ.get x):=fun x1 x2 x3 x4 x5=>⟨_,by omega,k+1,rfl,by omega,(by rw[x1,ax (by omega)]),x2,x3,x4,x5⟩
  have cK:=vH p k (jc (by omega)) hx hy
  have fA:=jL hS F p t k
  (repeat(first|((repeat(revert hN;revert N;apply Pn.out));refine wk (tw @a12 (tw @a9 (tw @ag0 (tw @ag1 (tw @a2 (tw @a3 (tw @a4 (tw @a5 (tw @hk @aa.eq_1))))))))) ?_;(repeat(refine Pn.mk ?_;intro N hN)))|((try apply Or.inl);refine⟨_,aj.x (cK) (sd (tw @a12 (tw @a9 (tw @ag0 (tw @ag1 (tw @a2 (tw @a3 (tw @a4 (tw @a5 (tw @hk @aa.eq_1)))))))))),?_⟩;refine hN _ _ ?_;clear hN N)))
  refine .inl ⟨_,vW _ (by(try dsimp only);omega) (fun x hx=>sd (dt x hx)) (bF p k),?_⟩
  refine hN _ _ ?_
  clear hN N
  by_cases h0:0<=F (bF p k)
  ·have s6:=GN s hS.form t k (F (bF p k)) ht (hF _ h0) (jc (by omega))
   have ft:=tV hS t k (F (bF p k))
   have hw:IntKind.i64.wrap (dB s F p t k+gw s t k (F (bF p k)))=dB s F p t (k+1):=by
    rw[aZ (by omega),dB,if_pos h0]
   rw[ab]at s6
   (repeat(first|((repeat(revert hN;revert N;apply Pn.out));refine wk (tw @a12 (tw @a9 (tw @ag0 (tw @ag1 (tw @a2 (tw @a3 (tw @a4 (tw @a5 (tw @h0 @ab.eq_1))))))))) ?_;(repeat(refine Pn.mk ?_;intro N hN)))|((try apply Or.inl);refine⟨_,aj.x (s6) (sd (tw @a12 (tw @a9 (tw @ag0 (tw @ag1 (tw @a2 (tw @a3 (tw @a4 (tw @a5 (tw @h0 @ab.eq_1)))))))))),?_⟩;refine hN _ _ ?_;clear hN N)))
   refine bY ?_ ?_ ?_ ?_ (⟨by(try dsimp only);omega,fun x hx=>by
    have h1:=dt x hx
    simp only[go_sem, ↓reduceIte,Nat.reduceEqDiff,Nat.reduceAdd,Nat.reduceSub,Nat.reduceLeDiff,reduceCtorEq,h1]⟩)
   all_goals simp only[go_sem, ↓reduceIte,Nat.reduceEqDiff,Nat.reduceAdd,Nat.reduceSub,Nat.reduceLeDiff,reduceCtorEq,a12,a9,ag0,ag1,a2,a3,a4,a5,hw,aa,ab]
  ·have hw:dB s F p t (k+1)=dB s F p t k:=by rw[dB,if_neg h0,Int.add_zero]
   (try((repeat(revert hN;revert N;apply Pn.out));refine wk (tw @a12 (tw @a9 (tw @ag0 (tw @ag1 (tw @a2 (tw @a3 (tw @a4 (tw @a5 @h0)))))))) ?_;(repeat(refine Pn.mk ?_;intro N hN))))
   refine bY ?_ ?_ ?_ ?_ (⟨by(try dsimp only);omega,fun x hx=>by
    have h1:=dt x hx
    simp only[go_sem, ↓reduceIte,Nat.reduceEqDiff,Nat.reduceAdd,Nat.reduceSub,Nat.reduceLeDiff,reduceCtorEq,h1]⟩)
   all_goals simp only[go_sem, ↓reduceIte,Nat.reduceEqDiff,Nat.reduceAdd,Nat.reduceSub,Nat.reduceLeDiff,reduceCtorEq,a12,a9,ag0,ag1,a2,a3,a4,a5,hw,aa,ab]
 ·(try((repeat(revert hN;revert N;apply Pn.out));refine wk (tw @a12 (tw @a9 (tw @ag0 (tw @ag1 (tw @a2 (tw @a3 (tw @a4 (tw @a5 @hk)))))))) ?_;(repeat(refine Pn.mk ?_;intro N hN))))
  exact gD (.inl rfl) (vs:=[.int .i64 (dB s F p t k)]) (sd (tw @a12 (tw @a9 (tw @ag0 (tw @ag1 (tw @a2 (tw @a3 (tw @a4 @a5)))))))) (by rw[show k=4 by omega];rfl)
end Go.Proofs.YtgoelphibofcmaaGreat.V

namespace Go.Proofs.YtgoelphibofcmaaGreat.V
open Go.RowKit
attribute [local irreducible] dI wpOps ib Call
attribute [local go_sem] aJ gu eW gR gQ cE upd cw K.av cY AV.cells AV.cell rowOf rowsOf part ld rowAt bB cr dY eG jq bP dq eT gP fx dE eK dn dm eu ew bU bp db bR de dc eI eL eJ da cm dp eH bQ aO di cI jo bE cU bV aY du aV ea AV.undef bG bJ eA eE ei ep cJ eR eV cG eO eM dh dj List.getD_cons_zero List.getD_cons_succ List.getD_nil List.all_cons List.all_nil Bool.and_true Bool.true_and Bool.and_self Bool.not_true Bool.not_false Option.map_some Option.map_none Option.bind_some Option.bind_none List.length_cons List.length_nil List.take_succ_cons List.take_zero List.take_nil List.drop_succ_cons List.drop_zero List.drop_nil List.head?_cons List.map_cons List.map_nil List.getElem?_cons_zero List.getElem?_cons_succ List.cons_append List.nil_append List.append_nil List.length_map List.set_cons_zero List.set_cons_succ Nat.reduceMul eq_self Int.toNat_natCast Int.natCast_nonneg and_self true_and and_true decide_true decide_false Bool.false_eq_true Nat.zero_add Nat.add_zero List.contains_cons List.contains_nil Bool.or_false Bool.false_or beq_self_eq_true Nat.reduceBEq ne_eq not_true_eq_false not_false_eq_true Id.mk.injEq false_and and_false Nat.reduceLT Int.reduceLE Int.reduceLT Int.reduceToNat Int.reduceNeg Int.reduceAdd Nat.le_refl List.length_append beq_true beq_false Bool.not_eq_eq_eq_not or_false false_or eh ao aq aK br bI cC bc bz aQ bt cX cj
noncomputable def ye (s:aC) (ts:List ae) (p:ai) (t:Int):Bool:=rT p&&decide (fG ts p<0)&&decide (s.az<=nE s.aB (fG ts) p t)
theorem wW {σ:ar} {c T O:Id} {s:aC} {ts:List ae} (h:Bw σ.get σ.next c T O s ts) (hS:gW s.aB) (hF:∀q,0<=fG ts q->ez s.aB (fG ts q)=true) (p:ai) (hx:iB p.eB) (hy:iB p.ek) (t:Int) (ht:ez s.aB t=true):
  ib (Call Tryz.prog) 120 [.agg (ab s.aB),.agg (aa p),.int .i64 t,.tb 121 [.ptr c 0 0]] σ (fun r=>r=.int .i64 (nE s.aB (fG ts) p t)):=by
 unfold ib PC
 exact Or.inl (aU _ _ _ _ _ (fun r σ' hr=>⟨_,by rw[hr];exact aK _ _ _ _,rfl⟩) (EI (σ:=⟨V.ro σ.get,σ.next⟩) s.aB hS (fG ts) hF p hx hy t ht _ _
  (fun σ' hn hk q=>LP (h.ro.frame hn (hk _ h.cv) (hk _ h.tv)) q)))
theorem L5 {σ:ar} {c T O:Id} {s:aC} {ts:List ae} (h:Bw σ.get σ.next c T O s ts) (hS:gW s.aB) (hF:∀q,0<=fG ts q->ez s.aB (fG ts q)=true) (p:ai) (t:Int) (ht:ez s.aB t=true):
  Call Tryz.prog 133 [.ptr c 0 0,.agg (aa p),.int .i64 t] σ (fun r _=>r=.bool (ye s ts p t)):=by
 refine gT ej rfl fun mm=>?_
 clear mm
 obtain⟨b,h1⟩:=h.row
 have v1:=dv h.cv
 have hw:=j6 p
 have v2:=dv h.tv
 by_cases h0:rT p=true
 ·rw[h0]at hw
  obtain⟨hx,hy⟩:=nY h0
  by_cases h2:fG ts p<0
  ·(repeat(first|((repeat(revert hN;revert N;apply Pn.out));refine wk (tw @h1 (tw @v1 (tw @h2 @aa.eq_1))) ?_;(repeat(refine Pn.mk ?_;intro N hN)))|((try apply Or.inl);refine⟨_,aj.x (hw) (sd (tw @h1 (tw @v1 (tw @h2 @aa.eq_1)))),?_⟩;refine hN _ _ ?_;clear hN N)))
   refine⟨_,LP (h.frame (by(try dsimp only);omega) (sd @v1) (sd @v2)) p,?_⟩
   refine hN _ _ ?_
   clear hN N
   (repeat(first|((repeat(revert hN;revert N;apply Pn.out));refine wk (tw @h1 (tw @v1 (tw @h2 (tw @aa.eq_1 @ab.eq_1)))) ?_;(repeat(refine Pn.mk ?_;intro N hN)))|((try apply Or.inl);refine⟨_,aj.x (hw) (sd (tw @h1 (tw @v1 (tw @h2 (tw @aa.eq_1 @ab.eq_1))))),?_⟩;refine hN _ _ ?_;clear hN N)))
   refine⟨_,wW (h.frame (by(try dsimp only);omega) (sd @v1) (sd @v2)) hS hF p hx hy t ht,?_⟩
   refine hN _ _ ?_
   clear hN N
   have hb:=jL hS (fG ts) p t 4
   (repeat(first|((repeat(revert hN;revert N;apply Pn.out));refine wk (tw @h1 (tw @v1 (tw @h2 (tw @aa.eq_1 @ab.eq_1)))) ?_;(repeat(refine Pn.mk ?_;intro N hN)))|((try apply Or.inl);refine⟨_,aj.x (hw) (sd (tw @h1 (tw @v1 (tw @h2 (tw @aa.eq_1 @ab.eq_1))))),?_⟩;refine hN _ _ ?_;clear hN N)))
   exact gD (.inl rfl) (vs:=[.bool (decide (s.az<=nE s.aB (fG ts) p t))]) (sd @Nat.zero_add) (by rw[show ye s ts p t=decide (s.az<=nE s.aB (fG ts) p t) by simp[ye,h0,h2]];rfl)
  ·(repeat(first|((repeat(revert hN;revert N;apply Pn.out));refine wk (tw @h1 (tw @v1 (tw @h2 @aa.eq_1))) ?_;(repeat(refine Pn.mk ?_;intro N hN)))|((try apply Or.inl);refine⟨_,aj.x (hw) (sd (tw @h1 (tw @v1 (tw @h2 @aa.eq_1)))),?_⟩;refine hN _ _ ?_;clear hN N)))
   refine⟨_,LP (h.frame (by(try dsimp only);omega) (sd @v1) (sd @v2)) p,?_⟩
   refine hN _ _ ?_
   clear hN N
   (repeat(first|((repeat(revert hN;revert N;apply Pn.out));refine wk (tw @h1 (tw @v1 (tw @h2 @aa.eq_1))) ?_;(repeat(refine Pn.mk ?_;intro N hN)))|((try apply Or.inl);refine⟨_,aj.x (hw) (sd (tw @h1 (tw @v1 (tw @h2 @aa.eq_1)))),?_⟩;refine hN _ _ ?_;clear hN N)))
   exact gD (.inl rfl) (vs:=[.bool false]) (sd @Nat.zero_add) (by rw[show ye s ts p t=false by simp[ye,h2]];rfl)
 ·rw[Bool.not_eq_true]at h0
  rw[h0]at hw
  (repeat(first|((repeat(revert hN;revert N;apply Pn.out));refine wk (tw @h1 (tw @v1 @aa.eq_1)) ?_;(repeat(refine Pn.mk ?_;intro N hN)))|((try apply Or.inl);refine⟨_,aj.x (hw) (sd (tw @h1 (tw @v1 @aa.eq_1))),?_⟩;refine hN _ _ ?_;clear hN N)))
  exact gD (.inl rfl) (vs:=[.bool false]) (sd @Nat.zero_add) (by rw[show ye s ts p t=false by simp[ye,h0]];rfl)
end Go.Proofs.YtgoelphibofcmaaGreat.V

namespace Go.Proofs.YtgoelphibofcmaaGreat.V
open Go.RowKit
attribute [local irreducible] dI wpOps ib Call
attribute [local go_sem] aJ gu eW gR gQ cE upd cw K.av cY AV.cells AV.cell rowOf rowsOf part ld rowAt bB cr dY eG jq bP dq eT gP fx dE eK dn dm eu ew bU bp db bR de dc eI eL eJ da cm dp eH bQ aO di cI jo bE cU bV aY du aV ea AV.undef bG bJ eA eE ei ep cJ eR eV cG eO eM dh dj List.getD_cons_zero List.getD_cons_succ List.getD_nil List.all_cons List.all_nil Bool.and_true Bool.true_and Bool.and_self Bool.not_true Bool.not_false Option.map_some Option.map_none Option.bind_some Option.bind_none List.length_cons List.length_nil List.take_succ_cons List.take_zero List.take_nil List.drop_succ_cons List.drop_zero List.drop_nil List.head?_cons List.map_cons List.map_nil List.getElem?_cons_zero List.getElem?_cons_succ List.cons_append List.nil_append List.append_nil List.length_map List.set_cons_zero List.set_cons_succ Nat.reduceMul eq_self Int.toNat_natCast Int.natCast_nonneg and_self true_and and_true decide_true decide_false Bool.false_eq_true Nat.zero_add Nat.add_zero List.contains_cons List.contains_nil Bool.or_false Bool.false_or beq_self_eq_true Nat.reduceBEq ne_eq not_true_eq_false not_false_eq_true Id.mk.injEq false_and and_false Nat.reduceLT Int.reduceLE Int.reduceLT Int.reduceToNat Int.reduceNeg Int.reduceAdd Nat.le_refl List.length_append beq_true beq_false Bool.not_eq_eq_eq_not or_false false_or eh ao aq aK br bI cC bc bz aQ bt cX cj
def OW (rows:List (List AV)):Prop:=∀r∈rows,∃(x y:Int) (v:AV),r=[.int .i64 x,.int .i64 y,v]
theorem Ei (x y:Int):∀(rows:List (List AV)) (i:Nat),OW rows->∃fi,fP mP [.int .i64 x,.int .i64 y] rows i=some fi
 |[],i,_=>⟨none,by simp[fP]⟩
 |r::rs,i,h=>by
  obtain⟨fi,hf⟩:=Ei x y rs (i+1) fun r hr=>h r (by simp[hr])
  obtain⟨x',y',v,rfl⟩:=h r (by simp)
  unfold fP
  have e:fx mP.ts [.int .i64 x,.int .i64 y] (([.int .i64 x',.int .i64 y',v]:List AV).take mP.ks)=some (decide (x=x')&&decide (y=y')):=by
   simp[MK.ks,fx,gP]
  rw[e]
  cases decide (x=x')&&decide (y=y')
  ·exact⟨fi,hf⟩
  ·exact⟨some i,rfl⟩
theorem H3 {rows:List (List AV)} (h:OW rows) (x y:Int):∃fi,fF mP (.agg [.int .i64 x,.int .i64 y]) rows=some fi:=by
 unfold fF
 rw[if_pos ⟨rfl,rfl,rfl⟩]
 exact Ei x y rows 0 h
theorem Nb {rows:List (List AV)} (h:OW rows) (x y:Int) (v:AV) (fi:Option Nat):OW (ei rows [.int .i64 x,.int .i64 y,v] fi):=by
 intro r hr
 cases fi with
 |none=>
  rcases List.mem_append.1 (show r∈rows++[_]from hr)with h1|h1
  ·exact h r h1
  ·simp at h1;exact⟨x,y,v,h1⟩
 |some i=>
  rcases List.mem_or_eq_of_mem_set (show r∈rows.set i _ from hr)with h1|h1
  ·exact h r h1
  ·exact⟨x,y,v,h1⟩
theorem M9 {rows:List (List AV)} (h:OW rows) (fi:Option Nat):OW (ep rows fi):=by
 intro r hr
 cases fi with
 |none=>exact h r (by simpa[ep]using hr)
 |some i=>exact h r (List.mem_of_mem_eraseIdx (by simpa[ep]using hr))
def iA (σ:ar) (O:Id) (g:Rows) (n:Nat):Prop:=σ.next<=n/\(∀x:Id,x.aW<σ.next->x≠O->g x=σ.get x)/\∃rows,g O=some ⟨true,mP.nv,rows⟩/\OW rows
theorem iA.DI {σ:ar} {g:Rows} {n:Nat} {c T O:Id} {s:aC} {ts:List ae} (h:Bw σ.get σ.next c T O s ts) (hc:c≠O) (hT:T≠O) (k:iA σ O g n):Bw g n c T O s ts:=
 h.frame k.1 (k.2.1 _ h.cv hc) (k.2.1 _ h.tv hT)
theorem iA.trans {a b:ar} {O:Id} {g:Rows} {n:Nat} (h:iA a O b.get b.next) (k:iA b O g n):iA a O g n:=
 ⟨Nat.le_trans h.1 k.1,fun x hx hO=>(k.2.1 x (Nat.lt_of_lt_of_le hx h.1) hO).trans (h.2.1 x hx hO),k.2.2⟩
theorem iA.frame {a:ar} {O:Id} {g g':Rows} {n n' m:Nat} (h:iA a O g n) (ha:a.next<=m) (ho:O.aW<m) (hn:n<=n') (hf:∀x:Id,x.aW<m->g' x=g x):iA a O g' n':=by
 refine⟨Nat.le_trans h.1 hn,fun x hx hO=>(hf x (Nat.lt_of_lt_of_le hx ha)).trans (h.2.1 x hx hO),?_⟩
 obtain⟨rows,h1,h2⟩:=h.2.2
 exact⟨rows,(hf O ho).trans h1,h2⟩
theorem iA.write {a:ar} {O:Id} {g g':Rows} {n n':Nat} (h:iA a O g n) (hn:n<=n') (hf:∀x:Id,x.aW<a.next->x≠O->g' x=g x) {rows:List (List AV)} (ho:g' O=some ⟨true,mP.nv,rows⟩) (hw:OW rows):iA a O g' n':=
 ⟨Nat.le_trans h.1 hn,fun x hx hO=>(hf x hx hO).trans (h.2.1 x hx hO),rows,ho,hw⟩
theorem L6 {σ:ar} {c T O:Id} {s:aC} {ts:List ae} (h:Bw σ.get σ.next c T O s ts) (hS:gW s.aB) (hF:∀q,0<=fG ts q->ez s.aB (fG ts q)=true) (p:ai) (t:Int) (ht:ez s.aB t=true):
  ib (Call Tryz.prog) 133 [.ptr c 0 0,.agg (aa p),.int .i64 t] σ (fun r=>r=.bool (ye s ts p t)):=by
 unfold ib PC
 exact Or.inl (aU _ _ _ _ _ (fun r σ' hr=>⟨_,by rw[hr];exact br _ _ _,rfl⟩) (L5 (σ:=⟨V.ro σ.get,σ.next⟩) h.ro hS hF p t ht))
theorem yI {σ:ar} {c T O:Id} {s:aC} {ts:List ae} (h:Bw σ.get σ.next c T O s ts) (hc:c≠O) (hT:T≠O) (hO:∃rows,σ.get O=some ⟨true,mP.nv,rows⟩/\OW rows) (hS:gW s.aB) (hF:∀q,0<=fG ts q->ez s.aB (fG ts q)=true) (p:ai) (hx:iB p.eB) (hy:iB p.ek):
  Call Tryz.prog 127 [.ptr c 0 0,.agg (aa p)] σ (fun r σ'=>r=.gN []/\iA σ O σ'.get σ'.next):=by
 refine gT ej rfl fun mm=>?_
 clear mm
 have Jg:=hS.Bj
 have h0:iA σ O σ.get σ.next:=⟨Nat.le_refl _,fun _ _ _=>rfl,hO⟩
 (try((repeat(revert hN;revert N;apply Pn.out));refine wk @aa.eq_1 ?_;(repeat(refine Pn.mk ?_;intro N hN))))
 refine aH (fun n env st=>∃k:Nat,n=(4)-k/\k<=(4)/\env 8=.int .i64 (k:Int)/\st.get ⟨127000000,σ.next⟩=some ⟨true,2,[aa p]⟩/\(σ.next<st.next/\iA σ O st.get st.next)) (4) ⟨0,by omega,by omega,sl @aa.eq_1,sl @aa.eq_1,⟨by(try dsimp only);omega,h0.frame (Nat.le_refl _) h.ov (by(try dsimp only);omega) fun x hx=>by
  have:=dv hx
  simp only[go_sem, ↓reduceIte,Nat.reduceEqDiff,Nat.reduceAdd,Nat.reduceSub,Nat.reduceLeDiff,reduceCtorEq,this]⟩⟩ ?_
 rintro n_a env_a st_a ⟨k,rfl,ale,a8,ag0,nf⟩ dt
 have a0:=dt 0 (by kernel_rfl);have a3:=dt 3 (by kernel_rfl)
 simp only[go_sem, ↓reduceIte,Nat.reduceEqDiff,Nat.reduceAdd,Nat.reduceSub,Nat.reduceLeDiff,reduceCtorEq,aa]at a0 a3
 clear dt
 obtain⟨an,ak⟩:=nf
 have ha:=ak.DI h hc hT
 by_cases hk:(k:Int)<4
 ·have bY:∀{e:Env} {gg:Rows} {nx:Nat},(e 8=.int .i64 (IntKind.i64.wrap ((k:Int)+1)))->(gg ⟨127000000,σ.next⟩=some ⟨true,2,[aa p]⟩)->(σ.next<nx/\iA σ O gg nx)->∃m0,m0<(4)-k/\∃k:Nat,m0=(4)-k/\k<=(4)/\e 8=.int .i64 (k:Int)/\gg ⟨127000000,σ.next⟩=some ⟨true,2,[aa p]⟩/\(σ.next<nx/\iA σ O gg nx):=fun x1 x2 x3=>⟨_,by omega,k+1,rfl,by omega,(by rw[x1,ax (by omega)]),x2,x3⟩
  have cK:=vH p k (jc (by omega)) hx hy
  obtain⟨b,h1⟩:=ha.row
  have v1:=dv ha.cv
  (repeat(first|((repeat(revert hN;revert N;apply Pn.out));refine wk (tw @a8 (tw @ag0 (tw @a0 (tw @a3 (tw @hk (tw @h1 (tw @v1 @aa.eq_1))))))) ?_;(repeat(refine Pn.mk ?_;intro N hN)))|((try apply Or.inl);refine⟨_,aj.x (cK) (sd (tw @a8 (tw @ag0 (tw @a0 (tw @a3 (tw @hk (tw @h1 (tw @v1 @aa.eq_1)))))))),?_⟩;refine hN _ _ ?_;clear hN N)))
  refine aH (fun n env st=>∃t:Nat,n=(s.aB.ah.length)-t/\t<=(s.aB.ah.length)/\env 21=.int .i64 (t:Int)/\st.get ⟨127000000,σ.next⟩=some ⟨true,2,[aa p]⟩/\st.get ⟨127004003,st_a.next+1+1⟩=some ⟨true,2,[aa (bF p k)]⟩/\(st_a.next+3<=st.next/\iA σ O st.get st.next/\(env 6=.cu∨∃(o:Id) (n:Nat) (rows:List (List AV)),env 6=.own o 0 n/\st.get o=some ⟨true,1,rows⟩/\rows.length=n/\0<n/\n<=t/\st_a.next+3<=o.aW/\o.aW<st.next))) (s.aB.ah.length) ⟨0,by omega,by omega,sl (tw @a8 (tw @ag0 (tw @a0 (tw @a3 @aa.eq_1)))),sl (tw @a8 (tw @ag0 (tw @a0 (tw @a3 @aa.eq_1)))),sl (tw @a8 (tw @ag0 (tw @a0 (tw @a3 @aa.eq_1)))),⟨by(try dsimp only);omega,ak.frame ak.1 ha.ov (by(try dsimp only);omega) fun x hx=>(by
   have:=dv hx
   simp only[go_sem, ↓reduceIte,Nat.reduceEqDiff,Nat.reduceAdd,Nat.reduceSub,Nat.reduceLeDiff,reduceCtorEq,this]),.inl (sd @Nat.zero_add)⟩⟩ ?_
  rintro n_b env_b st_b ⟨t,rfl,ble,b21,bg0,bg1,bI0⟩ ec
  have b0:=ec 0 (by kernel_rfl);have b3:=ec 3 (by kernel_rfl);have b5:=ec 5 (by kernel_rfl);have b8:=ec 8 (by kernel_rfl);have o9:=ec 20 (by kernel_rfl)
  simp only[go_sem, ↓reduceIte,Nat.reduceEqDiff,Nat.reduceAdd,Nat.reduceSub,Nat.reduceLeDiff,reduceCtorEq,a8,ag0,a0,a3,aa]at b0 b3 b5 b8 o9
  clear ec
  obtain⟨bn,bk,b6⟩:=bI0
  have Mv:=bk.DI h hc hT
  obtain⟨b2,h2⟩:=Mv.row
  have v2:=dv Mv.cv
  have vt:=dv (i:=⟨127000000,σ.next⟩) (n:=st_b.next) (by(try dsimp only);omega)
  have vq:=dv (i:=⟨127004003,st_a.next+1+1⟩) (n:=st_b.next) (by(try dsimp only);omega)
  by_cases ht:(t:Int)<(s.aB.ah.length:Int)
  ·have er:∀{e:Env} {gg:Rows} {nx:Nat},(e 21=.int .i64 (IntKind.i64.wrap ((t:Int)+1)))->(gg ⟨127000000,σ.next⟩=some ⟨true,2,[aa p]⟩)->(gg ⟨127004003,st_a.next+1+1⟩=some ⟨true,2,[aa (bF p k)]⟩)->(st_a.next+3<=nx/\iA σ O gg nx/\(e 6=.cu∨∃(o:Id) (n:Nat) (rows:List (List AV)),e 6=.own o 0 n/\gg o=some ⟨true,1,rows⟩/\rows.length=n/\0<n/\n<=(t+1)/\st_a.next+3<=o.aW/\o.aW<nx))->∃m0,m0<(s.aB.ah.length)-t/\∃t:Nat,m0=(s.aB.ah.length)-t/\t<=(s.aB.ah.length)/\e 21=.int .i64 (t:Int)/\gg ⟨127000000,σ.next⟩=some ⟨true,2,[aa p]⟩/\gg ⟨127004003,st_a.next+1+1⟩=some ⟨true,2,[aa (bF p k)]⟩/\(st_a.next+3<=nx/\iA σ O gg nx/\(e 6=.cu∨∃(o:Id) (n:Nat) (rows:List (List AV)),e 6=.own o 0 n/\gg o=some ⟨true,1,rows⟩/\rows.length=n/\0<n/\n<=t/\st_a.next+3<=o.aW/\o.aW<nx)):=fun x1 x2 x3 x4=>⟨_,by omega,t+1,rfl,by omega,(by rw[x1,ax (by omega)]),x2,x3,x4⟩
   have MV:t<s.aB.ah.length:=by omega
   (try((repeat(revert hN;revert N;apply Pn.out));refine wk (tw @b21 (tw @bg0 (tw @bg1 (tw @b0 (tw @b3 (tw @b5 (tw @b8 (tw @o9 (tw @ht (tw @h2 (tw @v2 (tw @vt (tw @vq @aa.eq_1))))))))))))) ?_;(repeat(refine Pn.mk ?_;intro N hN))))
   refine .inl ⟨_,L6 (Mv.frame (by(try dsimp only);omega) (sd @v2) (by(have:=dv Mv.tv);simp only[go_sem, ↓reduceIte,Nat.reduceEqDiff,Nat.reduceAdd,Nat.reduceSub,Nat.reduceLeDiff,reduceCtorEq,this])) hS hF (bF p k) t (vN MV),?_⟩
   refine hN _ _ ?_
   clear hN N
   have jl:∀x:Id,x.aW<st_b.next->x≠⟨127010002,st_b.next+1+1+1⟩:=fun x hx h=>by rw[h]at hx;(try dsimp only at hx);omega
   cases hb:ye s ts (bF p k) t
   ·(try((repeat(revert hN;revert N;apply Pn.out));refine wk (tw @b21 (tw @bg0 (tw @bg1 (tw @b0 (tw @b3 (tw @b5 (tw @b8 (tw @o9 @hb)))))))) ?_;(repeat(refine Pn.mk ?_;intro N hN))))
    refine er ?_ ?_ ?_ (by(try dsimp only);exact⟨by omega,bk.frame bk.1 Mv.ov (by omega) (fun x hx=>by
      have h1:=dv (i:=x) (n:=st_b.next) (by omega)
      simp only[go_sem, ↓reduceIte,Nat.reduceEqDiff,Nat.reduceAdd,Nat.reduceSub,Nat.reduceLeDiff,reduceCtorEq,h1]),by
     rcases b6 with h|⟨o,n,rows,h1,h2,h3,h4,h5,h6,h7⟩
     ·exact .inl (sd @h)
     ·have h8:=dv h7
      exact .inr ⟨o,n,rows,sd @h1,sd (tw @h2 @h8),h3,h4,by omega,h6,by omega⟩⟩)
    all_goals simp only[go_sem, ↓reduceIte,Nat.reduceEqDiff,Nat.reduceAdd,Nat.reduceSub,Nat.reduceLeDiff,reduceCtorEq,b21,bg0,bg1,b0,b3,b5,b8,o9,aa,vt,vq]
   ·rcases b6 with b6|⟨o,n,rows,b6,bo,o3,o4,o5,o6,o7⟩
    ·(try((repeat(revert hN;revert N;apply Pn.out));refine wk (tw @b21 (tw @bg0 (tw @bg1 (tw @b0 (tw @b3 (tw @b5 (tw @b8 (tw @o9 (tw @b6 @hb))))))))) ?_;(repeat(refine Pn.mk ?_;intro N hN))))
     refine er ?_ ?_ ?_ (by(try dsimp only);exact⟨by omega,bk.frame (m:=st_a.next) ak.1 ha.ov (by omega) (fun x hx=>by
      have h1:=dv (i:=x) (n:=st_b.next) (by omega)
      simp only[go_sem, ↓reduceIte,Nat.reduceEqDiff,Nat.reduceAdd,Nat.reduceSub,Nat.reduceLeDiff,reduceCtorEq,h1]),.inr ⟨⟨127010003,st_b.next+1+1+1⟩,1,[[.int .i64 t]],sl @Nat.zero_add,sd @Nat.zero_add,rfl,by omega,by omega,by(try dsimp only);omega,by(try dsimp only);omega⟩⟩)
     all_goals simp only[go_sem, ↓reduceIte,Nat.reduceEqDiff,Nat.reduceAdd,Nat.reduceSub,Nat.reduceLeDiff,reduceCtorEq,b21,bg0,bg1,b0,b3,b5,b8,o9,aa,vt,vq]
    ·subst o3
     have e1:rows.length<=16777215:=by omega
     have vo:=dv o7
     have vto:=cQ (a:=⟨127000000,σ.next⟩) (b:=o) (by(try dsimp only);omega)
     have vqo:=cQ (a:=⟨127004003,st_a.next+1+1⟩) (b:=o) (by(try dsimp only);omega)
     (try((repeat(revert hN;revert N;apply Pn.out));refine wk (tw @b21 (tw @bg0 (tw @bg1 (tw @b0 (tw @b3 (tw @b5 (tw @b8 (tw @o9 (tw @b6 (tw @bo (tw @hb (tw @e1 @vo)))))))))))) ?_;(repeat(refine Pn.mk ?_;intro N hN))))
     refine er ?_ ?_ ?_ (by(try dsimp only);exact⟨by omega,bk.frame (m:=st_a.next) ak.1 ha.ov (by omega) (fun x hx=>by
      have h1:=dv (i:=x) (n:=st_b.next) (by omega)
      have h2:=cQ (a:=x) (b:=o) (by omega)
      simp only[go_sem, ↓reduceIte,Nat.reduceEqDiff,Nat.reduceAdd,Nat.reduceSub,Nat.reduceLeDiff,reduceCtorEq,h1,h2]),.inr ⟨⟨127010003,st_b.next+1+1+1⟩,rows.length+1,rows++[[.int .i64 t]],sl @Nat.zero_add,sd @Nat.zero_add,by simp,by omega,by omega,by(try dsimp only);omega,by(try dsimp only);omega⟩⟩)
     all_goals simp only[go_sem, ↓reduceIte,Nat.reduceEqDiff,Nat.reduceAdd,Nat.reduceSub,Nat.reduceLeDiff,reduceCtorEq,b21,bg0,bg1,b0,b3,b5,b8,o9,aa,vt,vq,vto,vqo]
  ·obtain⟨rows,hg,Ss⟩:=bk.2.2
   have vo:=dv Mv.ov
   obtain⟨fi,Hk⟩:=H3 Ss (bF p k).eB (bF p k).ek
   have hq:((⟨127000000,σ.next⟩:Id)=O)=False:=(cQ (a:=O) (b:=⟨127000000,σ.next⟩) (by have:=h.ov;(try dsimp only);omega)).2
   rcases b6 with b6|⟨o,n,rows2,b6,bo,o3,o4,o5,o6,o7⟩
   ·have d0:decide ((0:Int)<((0:Nat):Int))=false:=rfl
    (try((repeat(revert hN;revert N;apply Pn.out));refine wk (tw @b21 (tw @bg0 (tw @bg1 (tw @b0 (tw @b3 (tw @b5 (tw @b8 (tw @o9 (tw @b6 (tw @ht (tw @h2 (tw @v2 (tw @vt (tw @vq (tw @vo (tw @hg (tw @Hk (tw @aa.eq_1 @d0)))))))))))))))))) ?_;(repeat(refine Pn.mk ?_;intro N hN))))
    refine bY ?_ ?_ (by(try dsimp only);exact⟨by omega,bk.write (by omega) (fun x hx SG=>by
     have h1:=dv (i:=x) (n:=st_b.next) (by omega)
     have h2:(x=O)=False:=eq_false SG
     simp only[go_sem, ↓reduceIte,Nat.reduceEqDiff,Nat.reduceAdd,Nat.reduceSub,Nat.reduceLeDiff,reduceCtorEq,h1,h2]) (sl @Nat.zero_add) (M9 Ss _)⟩)
    all_goals simp only[go_sem, ↓reduceIte,Nat.reduceEqDiff,Nat.reduceAdd,Nat.reduceSub,Nat.reduceLeDiff,reduceCtorEq,a8,ag0,a0,a3,b21,bg0,bg1,b0,b3,b5,b8,o9,aa,vt,vo,hq]
   ·have d1:decide ((0:Int)<(n:Int))=true:=decide_eq_true (by omega)
    (try((repeat(revert hN;revert N;apply Pn.out));refine wk (tw @b21 (tw @bg0 (tw @bg1 (tw @b0 (tw @b3 (tw @b5 (tw @b8 (tw @o9 (tw @b6 (tw @ht (tw @h2 (tw @v2 (tw @vt (tw @vq (tw @vo (tw @hg (tw @Hk (tw @aa.eq_1 @d1)))))))))))))))))) ?_;(repeat(refine Pn.mk ?_;intro N hN))))
    refine bY ?_ ?_ (by(try dsimp only);exact⟨by omega,bk.write (by omega) (fun x hx SG=>by
     have h1:=dv (i:=x) (n:=st_b.next) (by omega)
     have h2:(x=O)=False:=eq_false SG
     simp only[go_sem, ↓reduceIte,Nat.reduceEqDiff,Nat.reduceAdd,Nat.reduceSub,Nat.reduceLeDiff,reduceCtorEq,h1,h2]) (sl @Nat.zero_add) (Nb Ss _ _ _ _)⟩)
    all_goals simp only[go_sem, ↓reduceIte,Nat.reduceEqDiff,Nat.reduceAdd,Nat.reduceSub,Nat.reduceLeDiff,reduceCtorEq,a8,ag0,a0,a3,b21,bg0,bg1,b0,b3,b5,b8,o9,aa,vt,vo,hq]
 ·(try((repeat(revert hN;revert N;apply Pn.out));refine wk (tw @a8 (tw @ag0 (tw @a0 (tw @a3 @hk)))) ?_;(repeat(refine Pn.mk ?_;intro N hN))))
  exact gD (.inr rfl) (vs:=[]) rfl ⟨rfl,ak.frame ak.1 ha.ov (by(try dsimp only);omega) (fun x hx=>rfl)⟩
end Go.Proofs.YtgoelphibofcmaaGreat.V

namespace Go.Proofs.YtgoelphibofcmaaGreat.V
open Go.RowKit
attribute [local irreducible] dI wpOps ib Call
attribute [local go_sem] aJ gu eW gR gQ cE upd cw K.av cY AV.cells AV.cell rowOf rowsOf part ld rowAt bB cr dY eG jq bP dq eT gP fx dE eK dn dm eu ew bU bp db bR de dc eI eL eJ da cm dp eH bQ aO di cI jo bE cU bV aY du aV ea AV.undef bG bJ eA eE ei ep cJ eR eV cG eO eM dh dj List.getD_cons_zero List.getD_cons_succ List.getD_nil List.all_cons List.all_nil Bool.and_true Bool.true_and Bool.and_self Bool.not_true Bool.not_false Option.map_some Option.map_none Option.bind_some Option.bind_none List.length_cons List.length_nil List.take_succ_cons List.take_zero List.take_nil List.drop_succ_cons List.drop_zero List.drop_nil List.head?_cons List.map_cons List.map_nil List.getElem?_cons_zero List.getElem?_cons_succ List.cons_append List.nil_append List.append_nil List.length_map List.set_cons_zero List.set_cons_succ Nat.reduceMul eq_self Int.toNat_natCast Int.natCast_nonneg and_self true_and and_true decide_true decide_false Bool.false_eq_true Nat.zero_add Nat.add_zero List.contains_cons List.contains_nil Bool.or_false Bool.false_or beq_self_eq_true Nat.reduceBEq ne_eq not_true_eq_false not_false_eq_true Id.mk.injEq false_and and_false Nat.reduceLT Int.reduceLE Int.reduceLT Int.reduceToNat Int.reduceNeg Int.reduceAdd Nat.le_refl List.length_append beq_true beq_false Bool.not_eq_eq_eq_not or_false false_or eh ao aq aK br bI cC bc bz aQ bt cX cj
structure ph (g:Rows) (n:Nat) (c T O:Id) (s:aC) (ts:List ae):Prop where
 row:g c=some ⟨true,6,[[.sl (s.aB.aA.map bW),.sl (s.aB.ah.map bd),.sl (s.aX.ah.map ad),.int .i64 s.az,.map T mP,.map O mP]]⟩
 tl:g T=some ⟨true,mP.nv,ts.map ad⟩
 op:∃rows,g O=some ⟨true,mP.nv,rows⟩/\OW rows
 cv:c.aW<n
 tv:T.aW<n
 ov:O.aW<n
 cT:c≠T
 cO:c≠O
 TO:T≠O
theorem ph.DI {g:Rows} {n:Nat} {c T O:Id} {s:aC} {ts:List ae} (h:ph g n c T O s ts):Bw g n c T O s ts:=⟨⟨_,h.row⟩,⟨_,h.tl⟩,h.cv,h.tv,h.ov⟩
theorem ph.look {σ:ar} {g:Rows} {n:Nat} {c T O:Id} {s:aC} {ts:List ae} (h:ph σ.get σ.next c T O s ts) (k:iA σ O g n):ph g n c T O s ts:=
 ⟨(k.2.1 _ h.cv h.cO).trans h.row,(k.2.1 _ h.tv h.TO).trans h.tl,k.2.2,Nat.lt_of_lt_of_le h.cv k.1,Nat.lt_of_lt_of_le h.tv k.1,Nat.lt_of_lt_of_le h.ov k.1,h.cT,h.cO,h.TO⟩
theorem ph.frame {g g':Rows} {n n':Nat} {c T O:Id} {s:aC} {ts:List ae} (h:ph g n c T O s ts) (hn:n<=n') (hf:∀x:Id,x.aW<n->g' x=g x):ph g' n' c T O s ts:=
 ⟨(hf _ h.cv).trans h.row,(hf _ h.tv).trans h.tl,by rw[hf _ h.ov];exact h.op,Nat.lt_of_lt_of_le h.cv hn,Nat.lt_of_lt_of_le h.tv hn,Nat.lt_of_lt_of_le h.ov hn,h.cT,h.cO,h.TO⟩
def Rb (σ:ar) (s:aC) (ts:List ae) (r:AV) (σ':ar):Prop:=
 ∃c T O:Id,r=.ptr c 0 0/\ph σ'.get σ'.next c T O s ts/\σ.next<=c.aW/\σ.next<=T.aW/\σ.next<=O.aW/\σ.next<=σ'.next/\∀x:Id,x.aW<σ.next->σ'.get x=σ.get x
theorem uG {l:List ae} {p:ai}:dZ l p<0↔∀t∈l,t.aF≠p:=by
 unfold dZ pN
 by_cases h:(l.findIdx fun c=>decide (c.aF=p))<l.length
 ·rw[if_pos h]
  obtain⟨t,ht,h2⟩:=List.findIdx_lt_length.1 h
  exact⟨fun h=>by omega,fun h=>absurd (by simpa using h2) (h t ht)⟩
 ·rw[if_neg h]
  exact⟨fun _ t ht e=>h (List.findIdx_lt_length.2 ⟨t,ht,by simp[e]⟩),fun _=>by omega⟩
theorem IA {l:List ae} (h:tP l) {k:Nat} (hk:k<l.length):dZ (l.take k) (aG l k).aF<0:=by
 rw[uG]
 intro t ht e
 obtain⟨j,hj,rfl⟩:=List.getElem_of_mem ht
 have I8:j<k:=by rw[List.length_take]at hj;omega
 have:=h j k I8 hk
 rw[List.getElem_take]at e
 have e2:aG l j=l[j]'(by omega):=by unfold aG;rw[List.getD_eq_getElem?_getD,List.getElem?_eq_getElem (by omega)];rfl
 rw[e2,e]at this
 simp[kg]at this
theorem KE {l:List ae} {k:Nat} (hk:k<l.length):(l.take k).map ad++[[.int .i64 (aG l k).aF.eB,.int .i64 (aG l k).aF.ek,.int .i64 (aG l k).aN]]=(l.take (k+1)).map ad:=by
 have e2:aG l k=l[k]:=by unfold aG;rw[List.getD_eq_getElem?_getD,List.getElem?_eq_getElem hk];rfl
 rw[List.take_succ_eq_append_getElem hk,List.map_append,e2]
 rfl
theorem gW.KY {s:au} {l:List ae} (hA:jw s l):∀q,0<=fG l q->ez s (fG l q)=true:=fun _ h=>zO hA h
theorem yU (s:aC) (hS:gW s.aB) (l:List ae) (hA:jw s.aB l) (σ:ar):Call Tryz.prog 73 [.agg (aw s),.agg [.sl (l.map ad)]] σ (Rb σ s l):=by
 refine gT ej rfl fun mm=>?_
 clear mm
 have An:=hA.1.so
 (try((repeat(revert hN;revert N;apply Pn.out));refine wk @aw.eq_1 ?_;(repeat(refine Pn.mk ?_;intro N hN))))
 refine aH (fun n env st=>∃k:Nat,n=(l.length)-k/\k<=(l.length)/\env 18=.int .i64 (k:Int)/\st.get ⟨73001004,σ.next+1⟩=some ⟨true,6,[[.sl (s.aB.aA.map bW),.sl (s.aB.ah.map bd),.sl (s.aX.ah.map ad),.int .i64 s.az,.map ⟨73001001,σ.next+1⟩ mP,.map ⟨73001002,σ.next+1⟩ mP]]⟩/\st.get ⟨73001001,σ.next+1⟩=some ⟨true,mP.nv,(l.take k).map ad⟩/\st.get ⟨73001002,σ.next+1⟩=some ⟨true,mP.nv,[]⟩/\st.get ⟨73000001,σ.next⟩=some ⟨true,1,[[.sl (l.map ad)]]⟩/\(σ.next+3<=st.next/\∀x:Id,x.aW<σ.next->st.get x=σ.get x)) (l.length) ⟨0,by omega,by omega,sl @Nat.zero_add,sl @Nat.zero_add,sl @Nat.zero_add,sl @Nat.zero_add,sl @Nat.zero_add,⟨by(try dsimp only);omega,fun x hx=>by
  have:=dv hx
  simp only[go_sem, ↓reduceIte,Nat.reduceEqDiff,Nat.reduceAdd,Nat.reduceSub,Nat.reduceLeDiff,reduceCtorEq,this]⟩⟩ ?_
 rintro n_a env_a st_a ⟨k,rfl,ale,a18,ag0,ag1,ag2,ag3,nf⟩ dt
 have a3:=dt 3 (by kernel_rfl);have a5:=dt 5 (by kernel_rfl);have NW:=dt 16 (by kernel_rfl);have a17:=dt 17 (by kernel_rfl)
 simp only[go_sem, ↓reduceIte,Nat.reduceEqDiff,Nat.reduceAdd,Nat.reduceSub,Nat.reduceLeDiff,reduceCtorEq]at a3 a5 NW a17
 clear dt
 obtain⟨an,dt⟩:=nf
 have v1:=dv (i:=⟨73001004,σ.next+1⟩) (n:=st_a.next) (by(try dsimp only);omega)
 have v2:=dv (i:=⟨73001001,σ.next+1⟩) (n:=st_a.next) (by(try dsimp only);omega)
 have v3:=dv (i:=⟨73001002,σ.next+1⟩) (n:=st_a.next) (by(try dsimp only);omega)
 have v4:=dv (i:=⟨73000001,σ.next⟩) (n:=st_a.next) (by(try dsimp only);omega)
 by_cases hk:(k:Int)<(l.length:Int)
 ·have bY:∀{e:Env} {gg:Rows} {nx:Nat},(e 18=.int .i64 (IntKind.i64.wrap ((k:Int)+1)))->(gg ⟨73001004,σ.next+1⟩=some ⟨true,6,[[.sl (s.aB.aA.map bW),.sl (s.aB.ah.map bd),.sl (s.aX.ah.map ad),.int .i64 s.az,.map ⟨73001001,σ.next+1⟩ mP,.map ⟨73001002,σ.next+1⟩ mP]]⟩)->(gg ⟨73001001,σ.next+1⟩=some ⟨true,mP.nv,(l.take (k+1)).map ad⟩)->(gg ⟨73001002,σ.next+1⟩=some ⟨true,mP.nv,[]⟩)->(gg ⟨73000001,σ.next⟩=some ⟨true,1,[[.sl (l.map ad)]]⟩)->(σ.next+3<=nx/\∀x:Id,x.aW<σ.next->gg x=σ.get x)->∃m0,m0<(l.length)-k/\∃k:Nat,m0=(l.length)-k/\k<=(l.length)/\e 18=.int .i64 (k:Int)/\gg ⟨73001004,σ.next+1⟩=some ⟨true,6,[[.sl (s.aB.aA.map bW),.sl (s.aB.ah.map bd),.sl (s.aX.ah.map ad),.int .i64 s.az,.map ⟨73001001,σ.next+1⟩ mP,.map ⟨73001002,σ.next+1⟩ mP]]⟩/\gg ⟨73001001,σ.next+1⟩=some ⟨true,mP.nv,(l.take k).map ad⟩/\gg ⟨73001002,σ.next+1⟩=some ⟨true,mP.nv,[]⟩/\gg ⟨73000001,σ.next⟩=some ⟨true,1,[[.sl (l.map ad)]]⟩/\(σ.next+3<=nx/\∀x:Id,x.aW<σ.next->gg x=σ.get x):=fun x1 x2 x3 x4 x5 x6=>⟨_,by omega,k+1,rfl,by omega,(by rw[x1,ax (by omega)]),x2,x3,x4,x5,x6⟩
  have eZ:k<l.length:=by omega
  have hg:=fh eZ
  have hm:=uR (IA hA.1.FQ eZ)
  have iR:=KE eZ
  (try((repeat(revert hN;revert N;apply Pn.out));refine wk (tw @a18 (tw @ag0 (tw @ag1 (tw @ag2 (tw @ag3 (tw @a3 (tw @a5 (tw @NW (tw @a17 (tw @hk (tw @hg (tw @hm (tw @v1 (tw @v2 (tw @v3 (tw @v4 @ad.eq_1)))))))))))))))) ?_;(repeat(refine Pn.mk ?_;intro N hN))))
  refine bY ?_ ?_ ?_ ?_ ?_ (by(try dsimp only);exact⟨by omega,fun x hx=>by
   have h1:=dv (i:=x) (n:=st_a.next) (by omega)
   have h2:=cQ (a:=x) (b:=⟨73001001,σ.next+1⟩) (by(try dsimp only);omega)
   have h3:=dt x hx
   simp only[go_sem, ↓reduceIte,Nat.reduceEqDiff,Nat.reduceAdd,Nat.reduceSub,Nat.reduceLeDiff,reduceCtorEq,h1,h2,h3]⟩)
  all_goals simp only[go_sem, ↓reduceIte,Nat.reduceEqDiff,Nat.reduceAdd,Nat.reduceSub,Nat.reduceLeDiff,reduceCtorEq,a18,ag0,ag1,ag2,ag3,a3,a5,NW,a17,ad,v1,v2,v3,v4,iR]
 ·have kQ:k=l.length:=by omega
  subst kQ
  have mV:l.take l.length=l:=List.take_length
  (try((repeat(revert hN;revert N;apply Pn.out));refine wk (tw @a18 (tw @ag0 (tw @ag1 (tw @ag2 (tw @ag3 (tw @a3 (tw @a5 (tw @NW (tw @a17 (tw @hk (tw @v1 (tw @v2 (tw @v3 @v4))))))))))))) ?_;(repeat(refine Pn.mk ?_;intro N hN))))
  refine aH (fun n env st=>∃j:Nat,n=(l.length)-j/\j<=(l.length)/\env 34=.int .i64 (j:Int)/\(σ.next+3<=st.next/\ph st.get st.next ⟨73001004,σ.next+1⟩ ⟨73001001,σ.next+1⟩ ⟨73001002,σ.next+1⟩ s l/\∀x:Id,x.aW<σ.next->st.get x=σ.get x)) (l.length) ⟨0,by omega,by omega,sl (tw @a18 (tw @ag0 (tw @ag1 (tw @ag2 (tw @ag3 (tw @a3 (tw @a5 (tw @NW @a17)))))))),by(try dsimp only);exact⟨by omega,⟨sd @ag0,sd (tw @ag1 @mV),⟨[],sd @ag2,by intro r hr;cases hr⟩,by(try dsimp only);omega,by(try dsimp only);omega,by(try dsimp only);omega,(by intro e;injection e with e1 e2;revert e1;decide),(by intro e;injection e with e1 e2;revert e1;decide),(by intro e;injection e with e1 e2;revert e1;decide)⟩,fun x hx=>by
   have h3:=dt x hx
   simp only[go_sem, ↓reduceIte,Nat.reduceEqDiff,Nat.reduceAdd,Nat.reduceSub,Nat.reduceLeDiff,reduceCtorEq,h3]⟩⟩ ?_
  rintro n_b env_b st_b ⟨j,rfl,ble,b34,bI0⟩ ec
  have b5:=ec 5 (by kernel_rfl);have se:=ec 32 (by kernel_rfl);have sU:=ec 33 (by kernel_rfl)
  simp only[go_sem, ↓reduceIte,Nat.reduceEqDiff,Nat.reduceAdd,Nat.reduceSub,Nat.reduceLeDiff,reduceCtorEq,a18,ag0,ag1,ag2,ag3,a3,a5,NW,a17]at b5 se sU
  clear ec
  obtain⟨bn,bC,ec⟩:=bI0
  by_cases hj:(j:Int)<(l.length:Int)
  ·have er:∀{e:Env} {gg:Rows} {nx:Nat},(e 34=.int .i64 (IntKind.i64.wrap ((j:Int)+1)))->(σ.next+3<=nx/\ph gg nx ⟨73001004,σ.next+1⟩ ⟨73001001,σ.next+1⟩ ⟨73001002,σ.next+1⟩ s l/\∀x:Id,x.aW<σ.next->gg x=σ.get x)->∃m0,m0<(l.length)-j/\∃j:Nat,m0=(l.length)-j/\j<=(l.length)/\e 34=.int .i64 (j:Int)/\(σ.next+3<=nx/\ph gg nx ⟨73001004,σ.next+1⟩ ⟨73001001,σ.next+1⟩ ⟨73001002,σ.next+1⟩ s l/\∀x:Id,x.aW<σ.next->gg x=σ.get x):=fun x1 x2=>⟨_,by omega,j+1,rfl,by omega,(by rw[x1,ax (by omega)]),x2⟩
   have nq:j<l.length:=by omega
   have hg:=fh nq
   have Hr:=nY (hA.1.pt nq)
   (try((repeat(revert hN;revert N;apply Pn.out));refine wk (tw @b34 (tw @b5 (tw @se (tw @sU (tw @hj (tw @hg @ad.eq_1)))))) ?_;(repeat(refine Pn.mk ?_;intro N hN))))
   have K2:ph (bB (bB st_b.get ⟨73009002,st_b.next+1⟩ ⟨true,3,[[.int .i64 0,.int .i64 0,.int .i64 0]]⟩) ⟨73009002,st_b.next+1⟩ ⟨true,3,[[.int .i64 (aG l j).aF.eB,.int .i64 (aG l j).aF.ek,.int .i64 (aG l j).aN]]⟩) (st_b.next+1+1+1) ⟨73001004,σ.next+1⟩ ⟨73001001,σ.next+1⟩ ⟨73001002,σ.next+1⟩ s l:=bC.frame (by omega) fun x hx=>by
    have h1:=dv hx
    simp only[go_sem, ↓reduceIte,Nat.reduceEqDiff,Nat.reduceAdd,Nat.reduceSub,Nat.reduceLeDiff,reduceCtorEq,h1]
   refine .inr (aU _ _ _ _ _ (fun r σ1 hq=>?_) (yI (σ:=⟨bB (bB st_b.get ⟨73009002,st_b.next+1⟩ ⟨true,3,[[.int .i64 0,.int .i64 0,.int .i64 0]]⟩) ⟨73009002,st_b.next+1⟩ ⟨true,3,[[.int .i64 (aG l j).aF.eB,.int .i64 (aG l j).aF.ek,.int .i64 (aG l j).aN]]⟩,st_b.next+1+1+1⟩) K2.DI K2.cO K2.TO K2.op hS (gW.KY hA) (aG l j).aF Hr.1 Hr.2))
   obtain⟨g1,x1⟩:=σ1
   obtain⟨rfl,hL⟩:=hq
   (try dsimp only at hL)
   have hC2:=K2.look hL
   have hLn:=hL.1
   have hLf:=hL.2.1
   (try dsimp only at hLn hLf)
   refine hN _ _ ?_
   clear hN N
   (try((repeat(revert hN;revert N;apply Pn.out));refine wk (tw @b34 (tw @b5 (tw @se @sU))) ?_;(repeat(refine Pn.mk ?_;intro N hN))))
   exact er (sd (tw @b34 (tw @b5 (tw @se @sU)))) (by(try dsimp only);exact⟨by omega,hC2.frame (by omega) (fun x hx=>rfl),fun x hx=>by
    have h1:=dv (i:=x) (n:=st_b.next) (by omega)
    have h2:=hLf x (by omega) (fun e=>by rw[e]at hx;(try dsimp only at hx);omega)
    have h3:=ec x hx
    simp only[h2]
    simp only[go_sem, ↓reduceIte,Nat.reduceEqDiff,Nat.reduceAdd,Nat.reduceSub,Nat.reduceLeDiff,reduceCtorEq,h1,h3]⟩)
  ·(try((repeat(revert hN;revert N;apply Pn.out));refine wk (tw @b34 (tw @b5 (tw @se (tw @sU @hj)))) ?_;(repeat(refine Pn.mk ?_;intro N hN))))
   exact gD (.inl rfl) (vs:=[.ptr ⟨73001004,σ.next+1⟩ 0 0]) (sd @Nat.zero_add) ⟨_,_,_,rfl,bC.frame (by(try dsimp only);omega) (fun x hx=>rfl),by(try dsimp only);omega,by(try dsimp only);omega,by(try dsimp only);omega,by(try dsimp only);omega,ec⟩
end Go.Proofs.YtgoelphibofcmaaGreat.V

namespace Go.Proofs.YtgoelphibofcmaaGreat.V
open Go.RowKit
attribute [local irreducible] dI wpOps ib Call
attribute [local go_sem] aJ gu eW gR gQ cE upd cw K.av cY AV.cells AV.cell rowOf rowsOf part ld rowAt bB cr dY eG jq bP dq eT gP fx dE eK dn dm eu ew bU bp db bR de dc eI eL eJ da cm dp eH bQ aO di cI jo bE cU bV aY du aV ea AV.undef bG bJ eA eE ei ep cJ eR eV cG eO eM dh dj List.getD_cons_zero List.getD_cons_succ List.getD_nil List.all_cons List.all_nil Bool.and_true Bool.true_and Bool.and_self Bool.not_true Bool.not_false Option.map_some Option.map_none Option.bind_some Option.bind_none List.length_cons List.length_nil List.take_succ_cons List.take_zero List.take_nil List.drop_succ_cons List.drop_zero List.drop_nil List.head?_cons List.map_cons List.map_nil List.getElem?_cons_zero List.getElem?_cons_succ List.cons_append List.nil_append List.append_nil List.length_map List.set_cons_zero List.set_cons_succ Nat.reduceMul eq_self Int.toNat_natCast Int.natCast_nonneg and_self true_and and_true decide_true decide_false Bool.false_eq_true Nat.zero_add Nat.add_zero List.contains_cons List.contains_nil Bool.or_false Bool.false_or beq_self_eq_true Nat.reduceBEq ne_eq not_true_eq_false not_false_eq_true Id.mk.injEq false_and and_false Nat.reduceLT Int.reduceLE Int.reduceLT Int.reduceToNat Int.reduceNeg Int.reduceAdd Nat.le_refl List.length_append beq_true beq_false Bool.not_eq_eq_eq_not or_false false_or eh ao aq aK br bI cC bc bz aQ bt cX cj
def fj (ps:List ai) (i:Nat):ai:=ps.getD i ⟨0,0⟩
theorem gJ {ps:List ai} {i:Nat} (h:i<ps.length):fj ps i=ps[i]:=by simp[fj,List.getD_eq_getElem?_getD,h]
theorem y4 {ps:List ai} {i:Nat} (h:i<ps.length):fj ps i∈ps:=by rw[gJ h];exact List.getElem_mem h
theorem qF {ps:List ai} {i:Nat} (h:i<ps.length):(ps.map aa)[i]? =some (aa (fj ps i)):=by simp[fj,List.getD_eq_getElem?_getD,h]
def kR (ps:List ai):Prop:=ps.Pairwise fun a b=>kg a b=true
theorem kR.at_ {ps:List ai} (h:kR ps) {i j:Nat} (DY:i<j) (hj:j<ps.length):kg (fj ps i) (fj ps j)=true:=by
 rw[gJ hj,gJ (by omega)]
 exact List.pairwise_iff_getElem.1 h i j (by omega) hj DY
def jB (ps:List ai) (p:ai):Nat:=ps.findIdx fun q=> !kg q p
theorem yL (ps:List ai) (p:ai):jB ps p<=ps.length:=List.findIdx_le_length
theorem Ef {ps:List ai} {p:ai} {x:Nat} (h:x<jB ps p):kg (fj ps x) p=true:=by
 have hx:x<ps.length:=Nat.lt_of_lt_of_le h (yL ps p)
 have:=List.not_of_lt_findIdx h
 rw[gJ hx]
 simpa using this
theorem yK {ps:List ai} {p:ai} (hR:kR ps) {x:Nat} (h:jB ps p<=x) (hx:x<ps.length):kg (fj ps x) p=false:=by
 have h0:jB ps p<ps.length:=by omega
 have h1:kg (fj ps (jB ps p)) p=false:=by
  have:=List.findIdx_getElem (p:=fun q=> !kg q p) (xs:=ps) (w:=h0)
  rw[gJ h0]
  have e:(!kg ps[jB ps p] p)=true:=this
  simpa using e
 by_cases he:jB ps p=x
 ·rw[<-he];exact h1
 ·have h2:=hR.at_ (show jB ps p<x by omega) hx
  cases hc:kg (fj ps x) p
  ·rfl
  ·rw[im h2 hc]at h1;cases h1
def mA (ps:List ai) (p:ai):List ai:=if jB ps p<ps.length/\fj ps (jB ps p)=p then ps else ps.take (jB ps p)++p::ps.drop (jB ps p)
theorem vd (ps:List ai) (p:ai):(mA ps p).length<=ps.length+1:=by
 unfold mA
 have:=yL ps p
 split
 ·omega
 ·simp;omega
theorem qz (ps:List ai) (p x:ai):x∈mA ps p↔x=p∨x∈ps:=by
 unfold mA
 split
 ·rename_i h
  refine⟨.inr,fun hx=>hx.elim (fun e=>?_) id⟩
  rw[e,<-h.2];exact y4 h.1
 ·have:x∈ps↔x∈ps.take (jB ps p)++ps.drop (jB ps p):=by rw[List.take_append_drop]
  rw[this]
  simp only[List.mem_append,List.mem_cons]
  constructor
  ·rintro(h|h|h)
   ·exact .inr (.inl h)
   ·exact .inl h
   ·exact .inr (.inr h)
  ·rintro(h|h|h)
   ·exact .inr (.inl h)
   ·exact .inl h
   ·exact .inr (.inr h)
theorem ve {ps:List ai} (hR:kR ps) (p:ai):kR (mA ps p):=by
 unfold mA
 split
 ·exact hR
 ·rename_i kV
  have hd:∀x∈ps.drop (jB ps p),kg p x=true:=fun x hx=>by
   obtain⟨j,hj,rfl⟩:=List.getElem_of_mem hx
   rw[List.length_drop]at hj
   rw[List.getElem_drop]
   have gm:jB ps p+j<ps.length:=by omega
   have h1:=yK (p:=p) hR (Nat.le_add_right _ j) gm
   rw[<-gJ gm]
   refine yN h1 fun he=>?_
   by_cases h0:j=0
   ·subst h0
    exact kV ⟨by omega,by simpa using he⟩
   ·have:=hR.at_ (show jB ps p<jB ps p+j by omega) gm
    rw[he]at this
    have h2:=yK (p:=p) hR (Nat.le_refl _) (show jB ps p<ps.length by omega)
    rw[this]at h2;cases h2
  have ht:∀x∈ps.take (jB ps p),kg x p=true:=fun x hx=>by
   obtain⟨j,hj,rfl⟩:=List.getElem_of_mem hx
   rw[List.length_take]at hj
   rw[List.getElem_take]
   have:=Ef (ps:=ps) (p:=p) (x:=j) (by omega)
   rwa [gJ (by omega)]at this
  refine List.pairwise_append.2 ⟨hR.sublist (List.take_sublist _ _),List.pairwise_cons.2 ⟨hd,hR.sublist (List.drop_sublist _ _)⟩,fun x hx y hy=>?_⟩
  rcases List.mem_cons.1 hy with rfl|hy
  ·exact ht x hx
  ·exact im (ht x hx) (hd y hy)
theorem y8:∀{ps qs:List ai},kR ps->kR qs->(∀x,x∈ps↔x∈qs)->ps=qs
 |[],[],_,_,_=>rfl
 |[],q::qs,_,_,h=>absurd ((h q).2 (by simp)) (by simp)
 |p::ps,[],_,_,h=>absurd ((h p).1 (by simp)) (by simp)
 |p::ps,q::qs,hp,hq,h=>by
  obtain⟨p1,p2⟩:=List.pairwise_cons.1 hp
  obtain⟨q1,q2⟩:=List.pairwise_cons.1 hq
  have e:p=q:=by
   rcases List.mem_cons.1 ((h p).1 (by simp))with e|e
   ·exact e
   ·rcases List.mem_cons.1 ((h q).2 (by simp))with e'|e'
    ·exact e'.symm
    ·have:=HP (q1 p e)
     rw[p1 q e']at this;cases this
  subst e
  congr 1
  refine y8 p2 q2 fun x=>⟨fun hx=>?_,fun hx=>?_⟩
  ·rcases List.mem_cons.1 ((h x).1 (List.mem_cons_of_mem _ hx))with e|e
   ·subst e;have:=p1 x hx;rw[mo]at this;cases this
   ·exact e
  ·rcases List.mem_cons.1 ((h x).2 (List.mem_cons_of_mem _ hx))with e|e
   ·subst e;have:=q1 x hx;rw[mo]at this;cases this
   ·exact e
def Ox (σ:ar) (kp:Id->Prop) (ps:List ai) (r:AV) (σ':ar):Prop:=
 ∃o:Id,r=.own o 0 ps.length/\σ'.get o=some ⟨true,2,ps.map aa⟩/\σ.next<=σ'.next/\o.aW<σ'.next/\(σ.next<=o.aW∨¬kp o)/\∀x:Id,x.aW<σ.next->kp x->σ'.get x=σ.get x
theorem Ls {ps:List ai} {i:Nat} {q:ai}:(ps.map aa).set i (aa q)=(ps.set i q).map aa:=List.map_set.symm
def xP (ps:List ai) (p:ai) (i:Nat):List ai:=(ps++[p]).take (i+1)++ps.drop i
theorem oO (ps:List ai) (p:ai) {i:Nat} (h:i<=ps.length):(xP ps p i).length=ps.length+1:=by simp[xP];omega
theorem Nt {ps:List ai} {p:ai} {i j:Nat} (hi:i<=ps.length) (hj:j<i):fj (xP ps p i) j=fj ps j:=by
 unfold fj xP
 rw[List.getD_eq_getElem?_getD,List.getD_eq_getElem?_getD,List.getElem?_append_left (by simp;omega),List.getElem?_take,if_pos (by omega),List.getElem?_append_left (by omega)]
theorem Gb (ps:List ai) (p:ai):xP ps p ps.length=ps++[p]:=by
 unfold xP
 rw[List.drop_length,List.append_nil,List.take_of_length_le (by simp)]
theorem IE {ps:List ai} {p:ai} {i:Nat} (hi:i<ps.length):(xP ps p (i+1)).set (i+1) (fj ps i)=xP ps p i:=by
 refine List.ext_getElem? fun j=>?_
 rw[List.getElem?_set,oO ps p (by omega)]
 unfold xP
 by_cases hj:i+1=j
 ·subst hj
  rw[if_pos rfl,if_pos (by omega),List.getElem?_append_right (by simp;omega)]
  simp only[List.length_take,List.length_append,List.length_cons,List.length_nil]
  rw[show i+1-min (i+1) (ps.length+(0+1))=0 by omega,List.getElem?_drop,Nat.add_zero,List.getElem?_eq_getElem hi,gJ hi]
 ·rw[if_neg hj]
  by_cases dy:j<i+1
  ·rw[List.getElem?_append_left (by simp;omega),List.getElem?_append_left (by simp;omega),List.getElem?_take,List.getElem?_take,if_pos (by omega),if_pos dy]
  ·rw[List.getElem?_append_right (by simp;omega),List.getElem?_append_right (by simp;omega)]
   simp only[List.length_take,List.length_append,List.length_cons,List.length_nil,List.getElem?_drop]
   congr 1
   omega
theorem KG {ps:List ai} {p:ai} {i:Nat} (hi:i<=ps.length):(xP ps p i).set i p=ps.take i++p::ps.drop i:=by
 refine List.ext_getElem? fun j=>?_
 rw[List.getElem?_set,oO ps p hi]
 unfold xP
 by_cases hj:i=j
 ·subst hj
  rw[if_pos rfl,if_pos (by omega),List.getElem?_append_right (by simp;omega)]
  simp[Nat.min_eq_left hi]
 ·rw[if_neg hj]
  by_cases dy:j<i
  ·rw[List.getElem?_append_left (by simp;omega),List.getElem?_append_left (by simp;omega),List.getElem?_take,List.getElem?_take,if_pos (by omega),if_pos dy,List.getElem?_append_left (by omega)]
  ·rw[List.getElem?_append_right (by simp;omega),List.getElem?_append_right (by simp;omega)]
   simp only[List.length_take,List.length_append,List.length_cons,List.length_nil]
   rw[show j-min i ps.length=(j-i-1)+1 by omega,List.getElem?_cons_succ]
   congr 1
   omega
theorem KI {X:fq} {Q:Ex->Env->ar->Prop} {N:Env->ar->Prop} {c:VC} {env:Env} {σ:ar} {id:Nat} (I:Env->ar->Prop) (h2:∀e s,I e s->N e s) (h1:∀N':Env->ar->Prop,(∀e s,I e s->N' e s)->dI X c (aV id (du N' Q)) env σ):dI X c (aV id (du N Q)) env σ:=h1 N h2
theorem pd (ps:List ai) (hR:kR ps) (hlen:ps.length<=1048576) (p:ai) (o:Id) (σ:ar) (ho:σ.get o=some ⟨true,2,ps.map aa⟩) (lO:o.aW<σ.next):
  Call Tryz.prog 112 [.own o 0 ps.length,.agg (aa p)] σ (Ox σ (fun x=>(x=o)=False) (mA ps p)):=by
 refine gT ej rfl fun mm=>?_
 clear mm
 have pK:=dv lO
 have QN:=yL ps p
 have zG:(ps.map aa).length=ps.length:=by simp
 (try((repeat(revert hN;revert N;apply Pn.out));refine wk (tw @aa.eq_1 @pK) ?_;(repeat(refine Pn.mk ?_;intro N hN))))
 refine KI (fun e s=>e 5=.int .i64 (jB ps p:Int)/\e 0=.own o 0 ps.length/\e 3=.ptr ⟨112000000,σ.next⟩ 0 0/\s.get ⟨112000000,σ.next⟩=some ⟨true,2,[aa p]⟩/\s.get o=some ⟨true,2,ps.map aa⟩/\σ.next<s.next/\∀x:Id,x.aW<σ.next->s.get x=σ.get x) ?_ ?_
 ·rintro e s ⟨f5,f0,f3,fg0,fg1,fn,ffr⟩
  refine hN _ _ ?_
  clear hN N
  have J1:=dv (i:=o) (n:=s.next) (by omega)
  obtain⟨a,ha⟩:∃a,jB ps p=a:=⟨_,rfl⟩
  rw[ha]at f5 QN
  by_cases hex:a<ps.length/\fj ps a=p
  ·have dy:(a:Int)<(ps.length:Int):=by omega
   have hg:=qF hex.1
   have hx:decide ((fj ps a).eB=p.eB)=true:=decide_eq_true (by rw[hex.2])
   have hy:decide ((fj ps a).ek=p.ek)=true:=decide_eq_true (by rw[hex.2])
   (try((repeat(revert hN;revert N;apply Pn.out));refine wk (tw @f5 (tw @f0 (tw @f3 (tw @fg0 (tw @fg1 (tw @dy (tw @hg (tw @hx (tw @hy (tw @zG @aa.eq_1)))))))))) ?_;(repeat(refine Pn.mk ?_;intro N hN))))
   have hp:mA ps p=ps:=by unfold mA;rw[ha,if_pos hex]
   rw[hp]
   exact gD (.inl rfl) (vs:=[.own o 0 ps.length]) (sd @Nat.zero_add) ⟨o,rfl,sd @fg1,by(try dsimp only);omega,by(try dsimp only);omega,.inr (by simp),fun x hx _=>sd (ffr x hx)⟩
  refine Bt (fun N hN=>?_)
  refine Dt (fun e s=>e 5=.int .i64 (a:Int)/\e 0=.own o 0 ps.length/\e 3=.ptr ⟨112000000,σ.next⟩ 0 0/\s.get ⟨112000000,σ.next⟩=some ⟨true,2,[aa p]⟩/\s.get o=some ⟨true,2,ps.map aa⟩/\σ.next<s.next/\∀x:Id,x.aW<σ.next->s.get x=σ.get x) ?_ ?_
  ·clear f5 f0 f3 fg0 fg1 fn ffr J1
   rintro e s ⟨f5,f0,f3,fg0,fg1,fn,ffr⟩
   refine hN _ _ ?_
   clear hN N
   have J1:=dv (i:=o) (n:=s.next) (by omega)
   have Oi:=dv (i:=⟨112000000,σ.next⟩) (n:=s.next) fn
   have e1:ps.length+1<=16777216:=by omega
   have oY:ps.map aa++[[.int .i64 p.eB,.int .i64 p.ek]]=(xP ps p ps.length).map aa:=by rw[Gb];simp[aa]
   have rL:IntKind.i64.wrap ((ps.length:Int)+1-1)=(ps.length:Int):=by rw[aZ (by omega)];omega
   have hp:mA ps p=ps.take a++p::ps.drop a:=by unfold mA;rw[ha,if_neg hex]
   have MH:((⟨112000000,σ.next⟩:Id)=o)=False:=by
    refine eq_false fun h=>?_
    rw[<-h]at lO;exact Nat.lt_irrefl _ lO
   (try((repeat(revert hN;revert N;apply Pn.out));refine wk (tw @f5 (tw @f0 (tw @f3 (tw @fg0 (tw @fg1 (tw @J1 (tw @Oi (tw @MH (tw @zG (tw @e1 (tw @oY (tw @rL (tw @Int.natCast_add (tw @Int.cast_ofNat_Int @aa.eq_1)))))))))))))) ?_;(repeat(refine Pn.mk ?_;intro N hN))))
   refine aH (fun m env st=>∃i:Nat,m=i/\a<=i/\i<=ps.length/\env 6=.int .i64 (i:Int)/\st.get ⟨112006003,s.next⟩=some ⟨true,2,(xP ps p i).map aa⟩/\st.get ⟨112000000,σ.next⟩=some ⟨true,2,[aa p]⟩/\s.next<st.next/\∀x:Id,x.aW<σ.next->(x=o)=False->st.get x=σ.get x) ps.length ⟨ps.length,rfl,QN,Nat.le_refl _,sd (tw @rL (tw @Int.natCast_add @Int.cast_ofNat_Int)),sd @oY,sd (tw @fg0 (tw @Oi (tw @MH @aa.eq_1))),by(try dsimp only);omega,fun x hx s9=>by
    have h1:=dv (i:=x) (n:=s.next) (by omega)
    have h2:=ffr x hx
    simp only[go_sem, ↓reduceIte,Nat.reduceEqDiff,Nat.reduceAdd,Nat.reduceSub,Nat.reduceLeDiff,reduceCtorEq,h1,h2,s9]⟩ ?_
   rintro m env_b st_b ⟨i,hmi,bl,ble,b6,bg0,bg1,bn,ec⟩ bkp
   have b0:=bkp 0 (by kernel_rfl)
   have b3:=bkp 3 (by kernel_rfl)
   have b5:=bkp 5 (by kernel_rfl)
   simp only[go_sem, ↓reduceIte,Nat.reduceEqDiff,Nat.reduceAdd,Nat.reduceSub,Nat.reduceLeDiff,reduceCtorEq,f0,f3,f5,aa]at b0 b3 b5
   clear bkp
   have SC:((xP ps p i).map aa).length=ps.length+1:=by rw[List.length_map,oO ps p ble]
   by_cases I6:(a:Int)<(i:Int)
   ·obtain⟨k,rfl⟩:∃k,i=k+1:=⟨i-1,by omega⟩
    have eZ:k<ps.length:=by omega
    have s8:IntKind.i64.wrap (((k+1:Nat):Int)-1)=(k:Int):=by rw[aZ (by omega)];omega
    have hq:((xP ps p (k+1)).map aa)[k]? =some (aa (fj ps k)):=by rw[qF (by rw[oO ps p ble];omega),Nt ble (Nat.lt_succ_self _)]
    have Gl:∃z,((xP ps p (k+1)).map aa)[k+1]? =some (aa z):=⟨_,qF (by rw[oO ps p ble];omega)⟩
    obtain⟨z,Gl⟩:=Gl
    have ev:((xP ps p (k+1)).map aa).set (k+1) (aa (fj ps k))=(xP ps p k).map aa:=by rw[Ls,IE eZ]
    have c1:(k:Int)<(ps.length:Int)+1:=by omega
    have c2:(k:Int)+1<(ps.length:Int)+1:=by omega
    have c3:(0:Int)<=(k:Int)+1:=by omega
    have c4:((k:Int)+1).toNat=k+1:=by omega
    have c5:(a:Int)<(k:Int)+1:=by omega
    have c6:IntKind.i64.wrap ((k:Int)+1-1)=(k:Int):=by rw[aZ (by omega)];omega
    rw[aa]at ev hq Gl
    (try((repeat(revert hN;revert N;apply Pn.out));refine wk (tw @b0 (tw @b3 (tw @b5 (tw @b6 (tw @bg0 (tw @bg1 (tw @I6 (tw @s8 (tw @hq (tw @Gl (tw @ev (tw @SC (tw @c1 (tw @c2 (tw @c3 (tw @c4 (tw @c5 (tw @c6 (tw @Int.natCast_add @Int.cast_ofNat_Int))))))))))))))))))) ?_;(repeat(refine Pn.mk ?_;intro N hN))))
    exact⟨k,by omega,k,rfl,by omega,by omega,sd @c6,sd @ev,sd (tw @bg1 @MH),by(try dsimp only);omega,fun x hx s9=>by
     have h1:=dv (i:=x) (n:=s.next) (by omega)
     have h2:=ec x hx s9
     simp only[go_sem, ↓reduceIte,Nat.reduceEqDiff,Nat.reduceAdd,Nat.reduceSub,Nat.reduceLeDiff,reduceCtorEq,h1,h2]⟩
   ·obtain rfl:i=a:=by omega
    have ev:((xP ps p i).map aa).set i (aa p)=(mA ps p).map aa:=by rw[Ls,KG QN,hp]
    have Gl:∃z,((xP ps p i).map aa)[i]? =some (aa z):=⟨_,qF (by rw[oO ps p ble];omega)⟩
    obtain⟨z,Gl⟩:=Gl
    have l7:(mA ps p).length=ps.length+1:=by rw[hp];simp;omega
    have c1:(i:Int)<(ps.length:Int)+1:=by omega
    rw[aa]at ev Gl
    (try((repeat(revert hN;revert N;apply Pn.out));refine wk (tw @b0 (tw @b3 (tw @b5 (tw @b6 (tw @bg0 (tw @bg1 (tw @I6 (tw @Gl (tw @ev (tw @SC (tw @c1 (tw @Int.natCast_add (tw @Int.cast_ofNat_Int @aa.eq_1))))))))))))) ?_;(repeat(refine Pn.mk ?_;intro N hN))))
    rw[<-l7]
    exact gD (.inl rfl) (vs:=[.own ⟨112006003,s.next⟩ 0 (mA ps p).length]) (sd (tw @b0 @l7)) ⟨⟨112006003,s.next⟩,rfl,sd @ev,by(try dsimp only);omega,by(try dsimp only);omega,.inl (by(try dsimp only);omega),fun x hx s9=>by
     have h1:=dv (i:=x) (n:=s.next) (by omega)
     have h2:=ec x hx s9
     simp only[go_sem, ↓reduceIte,Nat.reduceEqDiff,Nat.reduceAdd,Nat.reduceSub,Nat.reduceLeDiff,reduceCtorEq,h1,h2]⟩
  ·intro N hN
   by_cases I3:(a:Int)<(ps.length:Int)
   ·have hg:=qF (ps:=ps) (i:=a) (by omega)
    by_cases hx:(fj ps a).eB=p.eB
    ·have sG:decide ((fj ps a).eB=p.eB)=true:=decide_eq_true hx
     have Q0:decide ((fj ps a).ek=p.ek)=false:=decide_eq_false fun h=>hex ⟨by omega,yZ hx h⟩
     (try((repeat(revert hN;revert N;apply Pn.out));refine wk (tw @f5 (tw @f0 (tw @f3 (tw @fg0 (tw @fg1 (tw @I3 (tw @hg (tw @sG (tw @Q0 (tw @zG @aa.eq_1)))))))))) ?_;(repeat(refine Pn.mk ?_;intro N hN))))
     exact⟨sd @f5,sd @f0,sd @f3,sd (tw @fg0 @aa.eq_1),sd @fg1,by(try dsimp only);omega,fun x hx=>sd (ffr x hx)⟩
    ·have sG:decide ((fj ps a).eB=p.eB)=false:=decide_eq_false hx
     (try((repeat(revert hN;revert N;apply Pn.out));refine wk (tw @f5 (tw @f0 (tw @f3 (tw @fg0 (tw @fg1 (tw @I3 (tw @hg (tw @sG (tw @Bool.false_and (tw @zG @aa.eq_1)))))))))) ?_;(repeat(refine Pn.mk ?_;intro N hN))))
     exact⟨sd @f5,sd @f0,sd @f3,sd (tw @fg0 @aa.eq_1),sd @fg1,by(try dsimp only);omega,fun x hx=>sd (ffr x hx)⟩
   ·(try((repeat(revert hN;revert N;apply Pn.out));refine wk (tw @f5 (tw @f0 (tw @f3 (tw @fg0 (tw @fg1 (tw @I3 (tw @zG @aa.eq_1))))))) ?_;(repeat(refine Pn.mk ?_;intro N hN))))
    exact⟨sd @f5,sd @f0,sd @f3,sd (tw @fg0 @aa.eq_1),sd @fg1,by(try dsimp only);omega,fun x hx=>sd (ffr x hx)⟩
 intro N hN
 refine aH (fun m env st=>∃a:Nat,m=a/\jB ps p<=a/\a<=ps.length/\env 5=.int .i64 (a:Int)/\st.get ⟨112000000,σ.next⟩=some ⟨true,2,[aa p]⟩/\st.get o=some ⟨true,2,ps.map aa⟩/\σ.next<st.next/\∀x:Id,x.aW<σ.next->st.get x=σ.get x) ps.length ⟨ps.length,rfl,QN,Nat.le_refl _,sd @Nat.zero_add,sd @aa.eq_1,sd (tw @pK @ho),by(try dsimp only);omega,fun x hx=>by have:=dv hx;simp only[go_sem, ↓reduceIte,Nat.reduceEqDiff,Nat.reduceAdd,Nat.reduceSub,Nat.reduceLeDiff,reduceCtorEq,this]⟩ ?_
 rintro m env_a st_a ⟨a,hma,al,ale,a5,ag0,ag1,an,dt⟩ akp
 have a0:=akp 0 (by kernel_rfl)
 have a3:=akp 3 (by kernel_rfl)
 simp only[go_sem, ↓reduceIte,Nat.reduceEqDiff,Nat.reduceAdd,Nat.reduceSub,Nat.reduceLeDiff,reduceCtorEq,aa]at a0 a3
 clear akp
 by_cases h0:(0:Int)<(a:Int)
 ·obtain⟨b,rfl⟩:∃b,a=b+1:=⟨a-1,by omega⟩
  have ml:b<ps.length:=by omega
  have ft:(b:Int)<(ps.length:Int):=by omega
  have hg:=qF ml
  have hw:IntKind.i64.wrap (((b+1:Nat):Int)-1)=(b:Int):=by rw[aZ (by omega)];omega
  have hq:=ny (fj ps b) p
  cases hc:kg (fj ps b) p
  ·rw[hc]at hq
   (repeat(first|((repeat(revert hN;revert N;apply Pn.out));refine wk (tw @a0 (tw @a3 (tw @a5 (tw @ag0 (tw @ag1 (tw @h0 (tw @ft (tw @hg (tw @hw (tw @zG @aa.eq_1)))))))))) ?_;(repeat(refine Pn.mk ?_;intro N hN)))|((try apply Or.inl);refine⟨_,aj.x (hq) (sd (tw @a0 (tw @a3 (tw @a5 (tw @ag0 (tw @ag1 (tw @h0 (tw @ft (tw @hg (tw @hw (tw @zG @aa.eq_1))))))))))),?_⟩;refine hN _ _ ?_;clear hN N)))
   refine⟨b,by omega,b,rfl,?_,by omega,sd @hw,sd (tw @ag0 @aa.eq_1),sd @ag1,by(try dsimp only);omega,fun x hx=>sd (dt x hx)⟩
   rcases Nat.lt_or_ge b (jB ps p)with h|h
   ·rw[Ef h]at hc;cases hc
   ·exact h
  ·rw[hc]at hq
   have jV:jB ps p=b+1:=by
    rcases Nat.lt_or_ge b (jB ps p)with h|h
    ·omega
    ·have:=yK (p:=p) hR h ml
     rw[hc]at this;cases this
   (repeat(first|((repeat(revert hN;revert N;apply Pn.out));refine wk (tw @a0 (tw @a3 (tw @a5 (tw @ag0 (tw @ag1 (tw @h0 (tw @ft (tw @hg (tw @hw (tw @zG @aa.eq_1)))))))))) ?_;(repeat(refine Pn.mk ?_;intro N hN)))|((try apply Or.inl);refine⟨_,aj.x (hq) (sd (tw @a0 (tw @a3 (tw @a5 (tw @ag0 (tw @ag1 (tw @h0 (tw @ft (tw @hg (tw @hw (tw @zG @aa.eq_1))))))))))),?_⟩;refine hN _ _ ?_;clear hN N)))
   exact⟨sd (tw @a5 @jV),sd @a0,sd @a3,sd (tw @ag0 @aa.eq_1),sd @ag1,by(try dsimp only);omega,fun x hx=>sd (dt x hx)⟩
 ·have jV:jB ps p=a:=by omega
  (try((repeat(revert hN;revert N;apply Pn.out));refine wk (tw @a0 (tw @a3 (tw @a5 (tw @ag0 (tw @ag1 (tw @h0 (tw @zG @aa.eq_1))))))) ?_;(repeat(refine Pn.mk ?_;intro N hN))))
  exact⟨sd (tw @a5 @jV),sd @a0,sd @a3,sd (tw @ag0 @aa.eq_1),sd @ag1,by(try dsimp only);omega,fun x hx=>sd (dt x hx)⟩
end Go.Proofs.YtgoelphibofcmaaGreat.V

namespace Go.Proofs.YtgoelphibofcmaaGreat.V
open Go.RowKit
attribute [local irreducible] dI wpOps ib Call
attribute [local go_sem] aJ gu eW gR gQ cE upd cw K.av cY AV.cells AV.cell rowOf rowsOf part ld rowAt bB cr dY eG jq bP dq eT gP fx dE eK dn dm eu ew bU bp db bR de dc eI eL eJ da cm dp eH bQ aO di cI jo bE cU bV aY du aV ea AV.undef bG bJ eA eE ei ep cJ eR eV cG eO eM dh dj List.getD_cons_zero List.getD_cons_succ List.getD_nil List.all_cons List.all_nil Bool.and_true Bool.true_and Bool.and_self Bool.not_true Bool.not_false Option.map_some Option.map_none Option.bind_some Option.bind_none List.length_cons List.length_nil List.take_succ_cons List.take_zero List.take_nil List.drop_succ_cons List.drop_zero List.drop_nil List.head?_cons List.map_cons List.map_nil List.getElem?_cons_zero List.getElem?_cons_succ List.cons_append List.nil_append List.append_nil List.length_map List.set_cons_zero List.set_cons_succ Nat.reduceMul eq_self Int.toNat_natCast Int.natCast_nonneg and_self true_and and_true decide_true decide_false Bool.false_eq_true Nat.zero_add Nat.add_zero List.contains_cons List.contains_nil Bool.or_false Bool.false_or beq_self_eq_true Nat.reduceBEq ne_eq not_true_eq_false not_false_eq_true Id.mk.injEq false_and and_false Nat.reduceLT Int.reduceLE Int.reduceLT Int.reduceToNat Int.reduceNeg Int.reduceAdd Nat.le_refl List.length_append beq_true beq_false Bool.not_eq_eq_eq_not or_false false_or eh ao aq aK br bI cC bc bz aQ bt cX cj
def jf (l:List ae) (ps:List ai) (q:ai):List ai:=if rT q=true/\dZ l q<0 then mA ps q else ps
def eF (l:List ae) (ps:List ai) (p:ai):Nat->List ai
 |0=>ps
 |d+1=>jf l (eF l ps p d) (bF p d)
def ee (l:List ae):Nat->List ai
 |0=>[]
 |i+1=>eF l (ee l i) (aG l i).aF 4
def uU (l:List ae):List ai:=ee l l.length
theorem yS {l:List ae} {ps:List ai} (h:kR ps) (q:ai):kR (jf l ps q):=by
 unfold jf;split
 ·exact ve h q
 ·exact h
theorem pT {l:List ae} {ps:List ai} (h:kR ps) (p:ai):∀d,kR (eF l ps p d)
 |0=>h
 |d+1=>yS (pT h p d) _
theorem pV (l:List ae):∀i,kR (ee l i)
 |0=>List.Pairwise.nil
 |i+1=>pT (pV l i) _ 4
theorem yR (l:List ae) (ps:List ai) (q:ai):(jf l ps q).length<=ps.length+1:=by
 unfold jf;split
 ·exact vd ps q
 ·omega
theorem pS (l:List ae) (ps:List ai) (p:ai):∀d,(eF l ps p d).length<=ps.length+d
 |0=>Nat.le_refl _
 |d+1=>by
  have:=pS l ps p d
  have:=yR l (eF l ps p d) (bF p d)
  simp only[eF];omega
theorem pU (l:List ae):∀i,(ee l i).length<=i*4
 |0=>Nat.le_refl _
 |i+1=>by
  have:=pU l i
  have:=pS l (ee l i) (aG l i).aF 4
  simp only[ee];omega
theorem uN (l:List ae) (ps:List ai) (p:ai) (x:ai):∀d,x∈eF l ps p d↔x∈ps∨∃k,k<d/\x=bF p (k:Nat)/\rT x=true/\dZ l x<0
 |0=>⟨.inl,fun h=>h.elim id fun⟨_,h,_⟩=>absurd h (Nat.not_lt_zero _)⟩
 |d+1=>by
  simp only[eF,jf]
  have ih:=uN l ps p x d
  split
  ·rename_i h
   rw[qz,ih]
   constructor
   ·rintro(rfl|h1|⟨k,h1,h2⟩)
    ·exact .inr ⟨d,Nat.lt_succ_self _,rfl,h⟩
    ·exact .inl h1
    ·exact .inr ⟨k,by omega,h2⟩
   ·rintro(h1|⟨k,h1,h2⟩)
    ·exact .inr (.inl h1)
    ·by_cases hk:k=d
     ·subst hk;exact .inl h2.1
     ·exact .inr (.inr ⟨k,by omega,h2⟩)
  ·rename_i h
   rw[ih]
   constructor
   ·rintro(h1|⟨k,h1,h2⟩)
    ·exact .inl h1
    ·exact .inr ⟨k,by omega,h2⟩
   ·rintro(h1|⟨k,h1,h2⟩)
    ·exact .inl h1
    ·by_cases hk:k=d
     ·subst hk;rw[h2.1]at h2;exact absurd h2.2 h
     ·exact .inr ⟨k,by omega,h2⟩
def Gw (l:List ae) (x:ai):Prop:=rT x=true/\dZ l x<0/\∃i d:Nat,i<l.length/\d<4/\x=bF (aG l i).aF d
theorem uO (l:List ae) (x:ai):∀i,x∈ee l i↔∃j d:Nat,j<i/\d<4/\x=bF (aG l j).aF d/\rT x=true/\dZ l x<0
 |0=>⟨fun h=>(by cases h),fun⟨_,_,h,_⟩=>absurd h (Nat.not_lt_zero _)⟩
 |i+1=>by
  simp only[ee]
  rw[uN,uO l x i]
  constructor
  ·rintro(⟨j,d,h1,h2⟩|⟨d,h1,h2⟩)
   ·exact⟨j,d,by omega,h2⟩
   ·exact⟨i,d,Nat.lt_succ_self _,h1,h2⟩
  ·rintro⟨j,d,h1,h2,h3⟩
   by_cases hj:j=i
   ·subst hj;exact .inr ⟨d,h2,h3⟩
   ·exact .inl ⟨j,d,by omega,h2,h3⟩
theorem xC (l:List ae) (x:ai):x∈uU l↔Gw l x:=by
 unfold uU Gw
 rw[uO]
 exact⟨fun⟨j,d,h1,h2,h3,h4,h5⟩=>⟨h4,h5,j,d,h1,h2,h3⟩,fun⟨h4,h5,j,d,h1,h2,h3⟩=>⟨j,d,h1,h2,h3,h4,h5⟩⟩
theorem Fy (l:List ae) (hF:gK l) (σ:ar):Call Tryz.prog 71 [.bK [.sl (l.map ad)]] σ (Ox σ (fun _=>True) (uU l)):=by
 refine gT ej rfl fun mm=>?_
 clear mm
 have hR:=hF.FQ
 have An:=hF.so
 (try((repeat(revert hN;revert N;apply Pn.out));refine wk @Nat.zero_add ?_;(repeat(refine Pn.mk ?_;intro N hN))))
 refine aH (fun n env st=>∃i:Nat,n=(l.length)-i/\i<=(l.length)/\env 4=.int .i64 (i:Int)/\(∃o:Id,env 3=.own o 0 (ee l i).length/\st.get o=some ⟨true,2,(ee l i).map aa⟩/\o.aW<st.next/\σ.next<=o.aW/\∀x:Id,x.aW<σ.next->st.get x=σ.get x)) (l.length) ⟨0,by omega,by omega,sl @Nat.zero_add,⟨⟨71001000,σ.next+1⟩,by simp only[go_sem, ↓reduceIte,Nat.reduceEqDiff,Nat.reduceAdd,Nat.reduceSub,Nat.reduceLeDiff,reduceCtorEq];rfl,by simp only[go_sem, ↓reduceIte,Nat.reduceEqDiff,Nat.reduceAdd,Nat.reduceSub,Nat.reduceLeDiff,reduceCtorEq];rfl,by(try dsimp only);omega,by(try dsimp only);omega,fun x hx=>by
  have:=dv (i:=x) (n:=σ.next+1) (by omega)
  simp only[go_sem, ↓reduceIte,Nat.reduceEqDiff,Nat.reduceAdd,Nat.reduceSub,Nat.reduceLeDiff,reduceCtorEq,this]⟩⟩ ?_
 rintro n_a env_a st_a ⟨i,rfl,ale,a4,nf⟩ dt
 have a0:=dt 0 (by kernel_rfl)
 simp only[go_sem, ↓reduceIte,Nat.reduceEqDiff,Nat.reduceAdd,Nat.reduceSub,Nat.reduceLeDiff,reduceCtorEq]at a0
 clear dt
 obtain⟨o,a3,ag,aov,LN,dt⟩:=nf
 by_cases hi:(i:Int)<(l.length:Int)
 ·have bY:∀{e:Env} {gg:Rows} {nx:Nat},(e 4=.int .i64 (IntKind.i64.wrap ((i:Int)+1)))->(∃o:Id,e 3=.own o 0 (ee l (i+1)).length/\gg o=some ⟨true,2,(ee l (i+1)).map aa⟩/\o.aW<nx/\σ.next<=o.aW/\∀x:Id,x.aW<σ.next->gg x=σ.get x)->∃m0,m0<(l.length)-i/\∃i:Nat,m0=(l.length)-i/\i<=(l.length)/\e 4=.int .i64 (i:Int)/\(∃o:Id,e 3=.own o 0 (ee l i).length/\gg o=some ⟨true,2,(ee l i).map aa⟩/\o.aW<nx/\σ.next<=o.aW/\∀x:Id,x.aW<σ.next->gg x=σ.get x):=fun x1 x2=>⟨_,by omega,i+1,rfl,by omega,(by rw[x1,ax (by omega)]),x2⟩
  have fA:i<l.length:=by omega
  (try((repeat(revert hN;revert N;apply Pn.out));refine wk (tw @a4 (tw @a0 (tw @a3 @hi))) ?_;(repeat(refine Pn.mk ?_;intro N hN))))
  refine aH (fun n env st=>∃d:Nat,n=(4)-d/\d<=(4)/\env 5=.int .i64 (d:Int)/\(∃o:Id,env 3=.own o 0 (eF l (ee l i) (aG l i).aF d).length/\st.get o=some ⟨true,2,(eF l (ee l i) (aG l i).aF d).map aa⟩/\o.aW<st.next/\σ.next<=o.aW/\∀x:Id,x.aW<σ.next->st.get x=σ.get x)) (4) ⟨0,by omega,by omega,sl (tw @a4 @a0),⟨o,by simp only[go_sem, ↓reduceIte,Nat.reduceEqDiff,Nat.reduceAdd,Nat.reduceSub,Nat.reduceLeDiff,reduceCtorEq,a3,eF],by simp only[go_sem, ↓reduceIte,Nat.reduceEqDiff,Nat.reduceAdd,Nat.reduceSub,Nat.reduceLeDiff,reduceCtorEq,ag,eF],by(try dsimp only);omega,LN,fun x hx=>sd (dt x hx)⟩⟩ ?_
  rintro n_b env_b st_b ⟨d,rfl,ble,b5,bI0⟩ ec
  have b0:=ec 0 (by kernel_rfl);have b4:=ec 4 (by kernel_rfl)
  simp only[go_sem, ↓reduceIte,Nat.reduceEqDiff,Nat.reduceAdd,Nat.reduceSub,Nat.reduceLeDiff,reduceCtorEq,a4,a0]at b0 b4
  clear ec
  obtain⟨ob,b3,bg,bov,Qi,ec⟩:=bI0
  by_cases hd:(d:Int)<4
  ·have er:∀{e:Env} {gg:Rows} {nx:Nat},(e 5=.int .i64 (IntKind.i64.wrap ((d:Int)+1)))->(∃o:Id,e 3=.own o 0 (eF l (ee l i) (aG l i).aF (d+1)).length/\gg o=some ⟨true,2,(eF l (ee l i) (aG l i).aF (d+1)).map aa⟩/\o.aW<nx/\σ.next<=o.aW/\∀x:Id,x.aW<σ.next->gg x=σ.get x)->∃m0,m0<(4)-d/\∃d:Nat,m0=(4)-d/\d<=(4)/\e 5=.int .i64 (d:Int)/\(∃o:Id,e 3=.own o 0 (eF l (ee l i) (aG l i).aF d).length/\gg o=some ⟨true,2,(eF l (ee l i) (aG l i).aF d).map aa⟩/\o.aW<nx/\σ.next<=o.aW/\∀x:Id,x.aW<σ.next->gg x=σ.get x):=fun x1 x2=>⟨_,by omega,d+1,rfl,by omega,(by rw[x1,ax (by omega)]),x2⟩
   have jY:=fh fA
   have Hr:=nY (hF.pt fA)
   have cK:=rO (aG l i).aF d (jc (by omega)) Hr.1 Hr.2
   have Jd:=uJ (bF (aG l i).aF d)
   have iU:=dv bov
   have zG:((eF l (ee l i) (aG l i).aF d).map aa).length=(eF l (ee l i) (aG l i).aF d).length:=by simp
   cases hp:rT (bF (aG l i).aF d)
   ·rw[hp]at Jd
    have iR:eF l (ee l i) (aG l i).aF (d+1)=eF l (ee l i) (aG l i).aF d:=by
     simp only[eF,jf];rw[if_neg fun h=>by rw[hp]at h;cases h.1]
    (repeat(first|((repeat(revert hN;revert N;apply Pn.out));refine wk (tw @b5 (tw @b0 (tw @b4 (tw @b3 (tw @bg (tw @hd (tw @jY (tw @iU (tw @ad.eq_1 @aa.eq_1))))))))) ?_;(repeat(refine Pn.mk ?_;intro N hN)))|((try apply Or.inl);refine⟨_,aj.x (cK) (sd (tw @b5 (tw @b0 (tw @b4 (tw @b3 (tw @bg (tw @hd (tw @jY (tw @iU (tw @ad.eq_1 @aa.eq_1)))))))))),?_⟩;refine hN _ _ ?_;clear hN N)|((try apply Or.inl);refine⟨_,aj.x (Jd) (sd (tw @b5 (tw @b0 (tw @b4 (tw @b3 (tw @bg (tw @hd (tw @jY (tw @iU (tw @ad.eq_1 @aa.eq_1)))))))))),?_⟩;refine hN _ _ ?_;clear hN N)))
    exact er (sd (tw @b5 (tw @b0 (tw @b4 @aa.eq_1)))) (by exact⟨ob,sd (tw @b3 @iR),sd (tw @bg (tw @iU @iR)),by(try dsimp only);omega,Qi,fun x hx=>by
     have h1:=dv (i:=x) (n:=st_b.next) (by omega)
     have h2:=dv (i:=x) (n:=st_b.next+1) (by omega)
     have h3:=ec x hx
     simp only[go_sem, ↓reduceIte,Nat.reduceEqDiff,Nat.reduceAdd,Nat.reduceSub,Nat.reduceLeDiff,reduceCtorEq,h1,h2,h3]⟩)
   ·rw[hp]at Jd
    have zF:=pP l (bF (aG l i).aF d) hR (by omega)
    by_cases hx:dZ l (bF (aG l i).aF d)<0
    ·have iR:eF l (ee l i) (aG l i).aF (d+1)=mA (eF l (ee l i) (aG l i).aF d) (bF (aG l i).aF d):=by
      simp only[eF,jf];rw[if_pos ⟨hp,hx⟩]
     have hl1:=pS l (ee l i) (aG l i).aF d
     have Pg:=pU l i
     (repeat(first|((repeat(revert hN;revert N;apply Pn.out));refine wk (tw @b5 (tw @b0 (tw @b4 (tw @b3 (tw @bg (tw @hd (tw @jY (tw @iU (tw @hx (tw @ad.eq_1 @aa.eq_1)))))))))) ?_;(repeat(refine Pn.mk ?_;intro N hN)))|((try apply Or.inl);refine⟨_,aj.x (cK) (sd (tw @b5 (tw @b0 (tw @b4 (tw @b3 (tw @bg (tw @hd (tw @jY (tw @iU (tw @hx (tw @ad.eq_1 @aa.eq_1))))))))))),?_⟩;refine hN _ _ ?_;clear hN N)|((try apply Or.inl);refine⟨_,aj.x (Jd) (sd (tw @b5 (tw @b0 (tw @b4 (tw @b3 (tw @bg (tw @hd (tw @jY (tw @iU (tw @hx (tw @ad.eq_1 @aa.eq_1))))))))))),?_⟩;refine hN _ _ ?_;clear hN N)|((try apply Or.inl);refine⟨_,aj.x (zF) (sd (tw @b5 (tw @b0 (tw @b4 (tw @b3 (tw @bg (tw @hd (tw @jY (tw @iU (tw @hx (tw @ad.eq_1 @aa.eq_1))))))))))),?_⟩;refine hN _ _ ?_;clear hN N)))
     refine .inr (aU _ _ _ _ _ (fun r σ1 hq=>?_) (pd _ (pT (pV l i) _ d) (by omega) (bF (aG l i).aF d) ob _ (sd (tw @bg @iU)) (by(try dsimp only);omega)))
     obtain⟨g1,x1⟩:=σ1
     obtain⟨o1,rfl,q1,q2,q3,q4,q5⟩:=hq
     (try dsimp only at q1 q2 q3 q4 q5)
     refine hN _ _ ?_
     clear hN N
     (try((repeat(revert hN;revert N;apply Pn.out));refine wk (tw @b5 (tw @b0 @b4)) ?_;(repeat(refine Pn.mk ?_;intro N hN))))
     exact er (sd (tw @b5 (tw @b0 (tw @b4 @aa.eq_1)))) (by exact⟨o1,sd @iR,sd (tw @q1 @iR),by(try dsimp only);omega,by
      rcases q4 with h|h
      ·omega
      ·have:o1=ob:=by simpa using h
       rw[this];exact Qi,fun x hx=>by
      have h1:=dv (i:=x) (n:=st_b.next) (by omega)
      have h2:=dv (i:=x) (n:=st_b.next+1) (by omega)
      have h3:=ec x hx
      have h4:(x=ob)=False:=eq_false fun h=>by rw[h]at hx;omega
      have h5:=q5 x (by omega) h4
      simp only[go_sem, ↓reduceIte,Nat.reduceEqDiff,Nat.reduceAdd,Nat.reduceSub,Nat.reduceLeDiff,reduceCtorEq,h1,h2,h3,h5]⟩)
    ·have iR:eF l (ee l i) (aG l i).aF (d+1)=eF l (ee l i) (aG l i).aF d:=by
      simp only[eF,jf];rw[if_neg fun h=>hx h.2]
     (repeat(first|((repeat(revert hN;revert N;apply Pn.out));refine wk (tw @b5 (tw @b0 (tw @b4 (tw @b3 (tw @bg (tw @hd (tw @jY (tw @iU (tw @hx (tw @ad.eq_1 @aa.eq_1)))))))))) ?_;(repeat(refine Pn.mk ?_;intro N hN)))|((try apply Or.inl);refine⟨_,aj.x (cK) (sd (tw @b5 (tw @b0 (tw @b4 (tw @b3 (tw @bg (tw @hd (tw @jY (tw @iU (tw @hx (tw @ad.eq_1 @aa.eq_1))))))))))),?_⟩;refine hN _ _ ?_;clear hN N)|((try apply Or.inl);refine⟨_,aj.x (Jd) (sd (tw @b5 (tw @b0 (tw @b4 (tw @b3 (tw @bg (tw @hd (tw @jY (tw @iU (tw @hx (tw @ad.eq_1 @aa.eq_1))))))))))),?_⟩;refine hN _ _ ?_;clear hN N)|((try apply Or.inl);refine⟨_,aj.x (zF) (sd (tw @b5 (tw @b0 (tw @b4 (tw @b3 (tw @bg (tw @hd (tw @jY (tw @iU (tw @hx (tw @ad.eq_1 @aa.eq_1))))))))))),?_⟩;refine hN _ _ ?_;clear hN N)))
     exact er (sd (tw @b5 (tw @b0 (tw @b4 @aa.eq_1)))) (by exact⟨ob,sd (tw @b3 @iR),sd (tw @bg (tw @iU @iR)),by(try dsimp only);omega,Qi,fun x hx=>by
      have h1:=dv (i:=x) (n:=st_b.next) (by omega)
      have h2:=dv (i:=x) (n:=st_b.next+1) (by omega)
      have h3:=ec x hx
      simp only[go_sem, ↓reduceIte,Nat.reduceEqDiff,Nat.reduceAdd,Nat.reduceSub,Nat.reduceLeDiff,reduceCtorEq,h1,h2,h3]⟩)
  ·have Hi:d=4:=by omega
   rw[Hi]at b3 bg
   have hnu:eF l (ee l i) (aG l i).aF 4=ee l (i+1):=rfl
   rw[hnu]at b3 bg
   (try((repeat(revert hN;revert N;apply Pn.out));refine wk (tw @b5 (tw @b0 (tw @b4 (tw @b3 (tw @bg @hd))))) ?_;(repeat(refine Pn.mk ?_;intro N hN))))
   exact bY (sd (tw @b5 (tw @b0 (tw @b4 @aa.eq_1)))) (by exact⟨ob,sd @b3,sd @bg,by(try dsimp only);omega,Qi,fun x hx=>sd (ec x hx)⟩)
 ·have lv:i=l.length:=by omega
  (try((repeat(revert hN;revert N;apply Pn.out));refine wk (tw @a4 (tw @a0 (tw @a3 (tw @ag @hi)))) ?_;(repeat(refine Pn.mk ?_;intro N hN))))
  exact gD (.inl rfl) (vs:=[.own o 0 (ee l i).length]) (sd @a3) ⟨o,by rw[uU,<-lv];rfl,by rw[uU,<-lv];simp only[go_sem, ↓reduceIte,Nat.reduceEqDiff,Nat.reduceAdd,Nat.reduceSub,Nat.reduceLeDiff,reduceCtorEq,ag],by(try dsimp only);omega,by(try dsimp only);omega,.inl LN,fun x hx _=>sd (dt x hx)⟩
end Go.Proofs.YtgoelphibofcmaaGreat.V

namespace Go.Proofs.YtgoelphibofcmaaGreat.V
open Go.RowKit
attribute [local irreducible] dI wpOps ib Call
attribute [local go_sem] aJ gu eW gR gQ cE upd cw K.av cY AV.cells AV.cell rowOf rowsOf part ld rowAt bB cr dY eG jq bP dq eT gP fx dE eK dn dm eu ew bU bp db bR de dc eI eL eJ da cm dp eH bQ aO di cI jo bE cU bV aY du aV ea AV.undef bG bJ eA eE ei ep cJ eR eV cG eO eM dh dj List.getD_cons_zero List.getD_cons_succ List.getD_nil List.all_cons List.all_nil Bool.and_true Bool.true_and Bool.and_self Bool.not_true Bool.not_false Option.map_some Option.map_none Option.bind_some Option.bind_none List.length_cons List.length_nil List.take_succ_cons List.take_zero List.take_nil List.drop_succ_cons List.drop_zero List.drop_nil List.head?_cons List.map_cons List.map_nil List.getElem?_cons_zero List.getElem?_cons_succ List.cons_append List.nil_append List.append_nil List.length_map List.set_cons_zero List.set_cons_succ Nat.reduceMul eq_self Int.toNat_natCast Int.natCast_nonneg and_self true_and and_true decide_true decide_false Bool.false_eq_true Nat.zero_add Nat.add_zero List.contains_cons List.contains_nil Bool.or_false Bool.false_or beq_self_eq_true Nat.reduceBEq ne_eq not_true_eq_false not_false_eq_true Id.mk.injEq false_and and_false Nat.reduceLT Int.reduceLE Int.reduceLT Int.reduceToNat Int.reduceNeg Int.reduceAdd Nat.le_refl List.length_append beq_true beq_false Bool.not_eq_eq_eq_not or_false false_or eh ao aq aK br bI cC bc bz aQ bt cX cj
def dM (s:aC) (l:List ae):Nat->List ai
 |0=>uU l
 |i+1=>if fG s.aX.ah (aG l i).aF=(aG l i).aN then dM s l i else mA (dM s l i) (aG l i).aF
def cz (s:aC) (l:List ae):List ai:=dM s l l.length
def iy (s:aC) (l:List ae):Option (ai×Int):=((cz s l).find? fun p=>decide (0<=hZ s l p)).map fun p=>(p,hZ s l p)
def HY:Option (ai×Int)->List AV
 |none=>[.int .i64 0,.int .i64 0,.int .i64 0]
 |some (p,t)=>[.int .i64 p.eB,.int .i64 p.ek,.int .i64 t]
theorem k8 (s:aC) (l:List ae):∀i,kR (dM s l i)
 |0=>pV l _
 |i+1=>by
  simp only[dM];split
  ·exact k8 s l i
  ·exact ve (k8 s l i) _
theorem nJ (s:aC) (l:List ae):∀i,(dM s l i).length<=l.length*4+i
 |0=>pU l _
 |i+1=>by
  have:=nJ s l i
  simp only[dM];split
  ·omega
  ·have:=vd (dM s l i) (aG l i).aF;omega
theorem mh (s:aC) {l:List ae} (hF:gK l):∀i,i<=l.length->∀x∈dM s l i,rT x=true
 |0,_,x,hx=>((xC l x).1 hx).1
 |i+1,hi,x,hx=>by
  simp only[dM]at hx
  split at hx
  ·exact mh s hF i (by omega) x hx
  ·rcases(qz _ _ _).1 hx with rfl|h
   ·exact hF.pt (by omega)
   ·exact mh s hF i (by omega) x h
theorem G6 {f:ai->Bool} {ps:List ai} {k:Nat} (h1:k<ps.length) (h2:f (fj ps k)=true) (h3:∀j,j<k->f (fj ps j)=false):ps.find? f=some (fj ps k):=by
 rw[List.find?_eq_some_iff_getElem]
 exact⟨h2,k,h1,(gJ h1).symm,fun j hj=>by have:=h3 j hj;rw[gJ (by omega)]at this;rw[this];rfl⟩
theorem wo {f:ai->Bool} {ps:List ai} (h:∀j,j<ps.length->f (fj ps j)=false):ps.find? f=none:=by
 rw[List.find?_eq_none]
 intro x hx
 obtain⟨j,hj,rfl⟩:=List.getElem_of_mem hx
 have:=h j hj
 rw[gJ hj]at this
 simp[this]
theorem CK (s:aC) (hP:wb s) (l:List ae) (hA:jw s.aB l):aj Tryz.prog 68 [.bK (aw s),.bK [.sl (l.map ad)]] (.gN [.agg (HY (iy s l)),.bool (iy s l).isSome]):=by
 refine aj.body ej rfl fun mm n0=>?_
 clear mm
 have An:=hA.1.so
 (try((repeat(revert hN;revert N;apply Pn.out));refine wk @Nat.zero_add ?_;(repeat(refine Pn.mk ?_;intro N hN))))
 refine .inr (aU _ _ _ _ _ (fun r σ1 hq=>?_) (Fy l hA.1 _))
 obtain⟨g1,x1⟩:=σ1
 obtain⟨o0,rfl,q1,q2,q3,q4,q5⟩:=hq
 (try dsimp only at q1 q2 q3 q4 q5)
 have q6:=q5 ⟨68000000,n0⟩ (by(try dsimp only);omega) trivial
 have q7:n0+1<=o0.aW:=by rcases q4 with h|h;exact Nat.le_of_succ_le h;exact absurd trivial h
 refine hN _ _ ?_
 clear hN N
 (try((repeat(revert hN;revert N;apply Pn.out));refine wk (tw @q1 @q6) ?_;(repeat(refine Pn.mk ?_;intro N hN))))
 refine aH (fun n env st=>∃i:Nat,n=(l.length)-i/\i<=(l.length)/\env 7=.int .i64 (i:Int)/\st.get ⟨68000000,n0⟩=some ⟨true,3,[[.int .i64 0,.int .i64 0,.int .i64 0]]⟩/\(∃o:Id,env 6=.own o 0 (dM s l i).length/\st.get o=some ⟨true,2,(dM s l i).map aa⟩/\o.aW<st.next/\n0<o.aW)) (l.length) ⟨0,by omega,by omega,sl @q6,sl @q6,⟨o0,by simp only[go_sem, ↓reduceIte,Nat.reduceEqDiff,Nat.reduceAdd,Nat.reduceSub,Nat.reduceLeDiff,reduceCtorEq,dM],by simp only[go_sem, ↓reduceIte,Nat.reduceEqDiff,Nat.reduceAdd,Nat.reduceSub,Nat.reduceLeDiff,reduceCtorEq,q1,dM],by(try dsimp only);omega,q7⟩⟩ ?_
 rintro n_a env_a st_a ⟨i,rfl,ale,a7,ag0,nf⟩ dt
 have a0:=dt 0 (by kernel_rfl);have a1:=dt 1 (by kernel_rfl);have a4:=dt 4 (by kernel_rfl)
 simp only[go_sem, ↓reduceIte,Nat.reduceEqDiff,Nat.reduceAdd,Nat.reduceSub,Nat.reduceLeDiff,reduceCtorEq,q6]at a0 a1 a4
 clear dt
 obtain⟨o,a6,ag,aov,LN⟩:=nf
 have iU:=dv aov
 have fY:((⟨68000000,n0⟩:Id)=o)=False:=eq_false fun h=>by rw[<-h]at LN;exact Nat.lt_irrefl _ LN
 by_cases hi:(i:Int)<(l.length:Int)
 ·have bY:∀{e:Env} {gg:Rows} {nx:Nat},(e 7=.int .i64 (IntKind.i64.wrap ((i:Int)+1)))->(gg ⟨68000000,n0⟩=some ⟨true,3,[[.int .i64 0,.int .i64 0,.int .i64 0]]⟩)->(∃o:Id,e 6=.own o 0 (dM s l (i+1)).length/\gg o=some ⟨true,2,(dM s l (i+1)).map aa⟩/\o.aW<nx/\n0<o.aW)->∃m0,m0<(l.length)-i/\∃i:Nat,m0=(l.length)-i/\i<=(l.length)/\e 7=.int .i64 (i:Int)/\gg ⟨68000000,n0⟩=some ⟨true,3,[[.int .i64 0,.int .i64 0,.int .i64 0]]⟩/\(∃o:Id,e 6=.own o 0 (dM s l i).length/\gg o=some ⟨true,2,(dM s l i).map aa⟩/\o.aW<nx/\n0<o.aW):=fun x1 x2 x3=>⟨_,by omega,i+1,rfl,by omega,(by rw[x1,ax (by omega)]),x2,x3⟩
  have fA:i<l.length:=by omega
  have jY:=fh fA
  have Oh:=FA s hP.Bc (aG l i)
  have hl:=nJ s l i
  by_cases h0:fG s.aX.ah (aG l i).aF=(aG l i).aN
  ·have iR:dM s l (i+1)=dM s l i:=by simp only[dM];rw[if_pos h0]
   rw[decide_eq_true h0]at Oh
   (repeat(first|((repeat(revert hN;revert N;apply Pn.out));refine wk (tw @a7 (tw @ag0 (tw @a0 (tw @a1 (tw @a4 (tw @a6 (tw @ag (tw @hi (tw @jY (tw @iU @ad.eq_1)))))))))) ?_;(repeat(refine Pn.mk ?_;intro N hN)))|((try apply Or.inl);refine⟨_,aj.x (Oh) (sd (tw @a7 (tw @ag0 (tw @a0 (tw @a1 (tw @a4 (tw @a6 (tw @ag (tw @hi (tw @jY (tw @iU @ad.eq_1))))))))))),?_⟩;refine hN _ _ ?_;clear hN N)))
   refine bY ?_ ?_ (by exact⟨o,sd (tw @a6 @iR),sd (tw @ag (tw @iU @iR)),by(try dsimp only);omega,LN⟩)
   all_goals simp only[go_sem, ↓reduceIte,Nat.reduceEqDiff,Nat.reduceAdd,Nat.reduceSub,Nat.reduceLeDiff,reduceCtorEq,a7,ag0,a0,a1,a4]
  ·have iR:dM s l (i+1)=mA (dM s l i) (aG l i).aF:=by simp only[dM];rw[if_neg h0]
   rw[decide_eq_false h0]at Oh
   (repeat(first|((repeat(revert hN;revert N;apply Pn.out));refine wk (tw @a7 (tw @ag0 (tw @a0 (tw @a1 (tw @a4 (tw @a6 (tw @ag (tw @hi (tw @jY (tw @iU @ad.eq_1)))))))))) ?_;(repeat(refine Pn.mk ?_;intro N hN)))|((try apply Or.inl);refine⟨_,aj.x (Oh) (sd (tw @a7 (tw @ag0 (tw @a0 (tw @a1 (tw @a4 (tw @a6 (tw @ag (tw @hi (tw @jY (tw @iU @ad.eq_1))))))))))),?_⟩;refine hN _ _ ?_;clear hN N)))
   refine .inr (aU _ _ _ _ _ (fun r σ1 hq=>?_) (pd _ (k8 s l i) (by omega) (aG l i).aF o _ (sd (tw @ag @iU)) (by(try dsimp only);omega)))
   obtain⟨g2,x2⟩:=σ1
   obtain⟨o1,rfl,p1,p2,p3,p4,p5⟩:=hq
   (try dsimp only at p1 p2 p3 p4 p5)
   have p6:=p5 ⟨68000000,n0⟩ (by(try dsimp only);omega) fY
   refine hN _ _ ?_
   clear hN N
   (try((repeat(revert hN;revert N;apply Pn.out));refine wk (tw @a7 (tw @ag0 (tw @a0 (tw @a1 @a4)))) ?_;(repeat(refine Pn.mk ?_;intro N hN))))
   refine bY ?_ ?_ (by exact⟨o1,sd @iR,sd (tw @p1 @iR),by(try dsimp only);omega,by
    rcases p4 with h|h
    ·omega
    ·have:o1=o:=by simpa using h
     rw[this];exact LN⟩)
   all_goals simp only[go_sem, ↓reduceIte,Nat.reduceEqDiff,Nat.reduceAdd,Nat.reduceSub,Nat.reduceLeDiff,reduceCtorEq,a7,ag0,a0,a1,a4,p6]
 have lv:i=l.length:=by omega
 subst lv
 have QE:dM s l l.length=cz s l:=rfl
 rw[QE]at a6 ag
 have Jd:=mh s hA.1 l.length (Nat.le_refl _)
 rw[QE]at Jd
 have hlf:=nJ s l l.length
 rw[QE]at hlf
 have zG:((cz s l).map aa).length=(cz s l).length:=by simp
 clear QE
 (try((repeat(revert hN;revert N;apply Pn.out));refine wk (tw @a7 (tw @ag0 (tw @a0 (tw @a1 (tw @a4 (tw @a6 (tw @ag @hi))))))) ?_;(repeat(refine Pn.mk ?_;intro N hN))))
 refine aH (fun n env st=>∃k:Nat,n=((cz s l).length)-k/\k<=((cz s l).length)/\env 8=.int .i64 (k:Int)/\st.get ⟨68000000,n0⟩=some ⟨true,3,[[.int .i64 0,.int .i64 0,.int .i64 0]]⟩/\st.get o=some ⟨true,2,(cz s l).map aa⟩/\(∀j:Nat,j<k->decide (0<=hZ s l (fj (cz s l) j))=false)) ((cz s l).length) ⟨0,by omega,by omega,sl (tw @a7 (tw @ag0 (tw @a0 (tw @a1 (tw @a4 (tw @a6 @ag)))))),sl (tw @a7 (tw @ag0 (tw @a0 (tw @a1 (tw @a4 (tw @a6 @ag)))))),sl (tw @a7 (tw @ag0 (tw @a0 (tw @a1 (tw @a4 (tw @a6 @ag)))))),fun _ h=>absurd h (Nat.not_lt_zero _)⟩ ?_
 rintro n_b env_b st_b ⟨k,rfl,ble,b8,bg0,bg1,bA0⟩ ec
 have b0:=ec 0 (by kernel_rfl);have b1:=ec 1 (by kernel_rfl);have b4:=ec 4 (by kernel_rfl);have b6:=ec 6 (by kernel_rfl)
 simp only[go_sem, ↓reduceIte,Nat.reduceEqDiff,Nat.reduceAdd,Nat.reduceSub,Nat.reduceLeDiff,reduceCtorEq,a7,ag0,a0,a1,a4,a6,ag]at b0 b1 b4 b6
 clear ec
 by_cases hk:(k:Int)<((cz s l).length:Int)
 ·have er:∀{e:Env} {gg:Rows},(e 8=.int .i64 (IntKind.i64.wrap ((k:Int)+1)))->(gg ⟨68000000,n0⟩=some ⟨true,3,[[.int .i64 0,.int .i64 0,.int .i64 0]]⟩)->(gg o=some ⟨true,2,(cz s l).map aa⟩)->(decide (0<=hZ s l (fj (cz s l) k))=false)->∃m0,m0<((cz s l).length)-k/\∃k:Nat,m0=((cz s l).length)-k/\k<=((cz s l).length)/\e 8=.int .i64 (k:Int)/\gg ⟨68000000,n0⟩=some ⟨true,3,[[.int .i64 0,.int .i64 0,.int .i64 0]]⟩/\gg o=some ⟨true,2,(cz s l).map aa⟩/\(∀j:Nat,j<k->decide (0<=hZ s l (fj (cz s l) j))=false):=fun x1 x2 x3 x4=>⟨_,by omega,k+1,rfl,by omega,(by rw[x1,ax (by omega)]),x2,x3,(all_succ bA0 x4)⟩
  have eZ:k<(cz s l).length:=by omega
  have eo:=qF eZ
  have Hr:=nY (Jd _ (y4 eZ))
  have hw:=CL s hP l hA (fj (cz s l) k) Hr.1 Hr.2
  by_cases h0:0<=hZ s l (fj (cz s l) k)
  ·have hf:iy s l=some (fj (cz s l) k,hZ s l (fj (cz s l) k)):=by
    unfold iy
    rw[G6 eZ (decide_eq_true h0) bA0];rfl
   (repeat(first|((repeat(revert hN;revert N;apply Pn.out));refine wk (tw @b8 (tw @bg0 (tw @bg1 (tw @b0 (tw @b1 (tw @b4 (tw @b6 (tw @hk (tw @eo (tw @h0 (tw @zG (tw @fY @aa.eq_1)))))))))))) ?_;(repeat(refine Pn.mk ?_;intro N hN)))|((try apply Or.inl);refine⟨_,aj.x (hw) (sd (tw @b8 (tw @bg0 (tw @bg1 (tw @b0 (tw @b1 (tw @b4 (tw @b6 (tw @hk (tw @eo (tw @h0 (tw @zG (tw @fY @aa.eq_1))))))))))))),?_⟩;refine hN _ _ ?_;clear hN N)))
   rw[hf]
   exact n9 (.inl rfl) (vs:=[.agg [.int .i64 (fj (cz s l) k).eB,.int .i64 (fj (cz s l) k).ek,.int .i64 (hZ s l (fj (cz s l) k))],.bool true]) (sd (tw @b8 (tw @bg0 (tw @bg1 (tw @b0 (tw @b1 (tw @b4 @b6))))))) (by simp only[fe,HY,dU,yh,aP,bx,dO,dL,Option.map_some,Option.isSome_some])
  ·(repeat(first|((repeat(revert hN;revert N;apply Pn.out));refine wk (tw @b8 (tw @bg0 (tw @bg1 (tw @b0 (tw @b1 (tw @b4 (tw @b6 (tw @hk (tw @eo (tw @h0 (tw @zG (tw @fY @aa.eq_1)))))))))))) ?_;(repeat(refine Pn.mk ?_;intro N hN)))|((try apply Or.inl);refine⟨_,aj.x (hw) (sd (tw @b8 (tw @bg0 (tw @bg1 (tw @b0 (tw @b1 (tw @b4 (tw @b6 (tw @hk (tw @eo (tw @h0 (tw @zG (tw @fY @aa.eq_1))))))))))))),?_⟩;refine hN _ _ ?_;clear hN N)))
   refine er ?_ ?_ ?_ (decide_eq_false h0)
   all_goals simp only[go_sem, ↓reduceIte,Nat.reduceEqDiff,Nat.reduceAdd,Nat.reduceSub,Nat.reduceLeDiff,reduceCtorEq,b8,bg0,bg1,b0,b1,b4,b6,fY]
 ·have hf:iy s l=none:=by
   unfold iy
   rw[wo fun j hj=>bA0 j (by omega)];rfl
  (try((repeat(revert hN;revert N;apply Pn.out));refine wk (tw @b8 (tw @bg0 (tw @bg1 (tw @b0 (tw @b1 (tw @b4 (tw @b6 (tw @hk @fY)))))))) ?_;(repeat(refine Pn.mk ?_;intro N hN))))
  rw[hf]
  exact n9 (.inl rfl) (vs:=[.agg [.int .i64 0,.int .i64 0,.int .i64 0],.bool false]) (sd (tw @b8 (tw @bg0 (tw @bg1 (tw @b0 (tw @b1 (tw @b4 @b6))))))) (by simp only[fe,HY,dU,yh,aP,bx,dO,dL,Option.map_some,Option.isSome_none])
end Go.Proofs.YtgoelphibofcmaaGreat.V

namespace Go.Proofs.YtgoelphibofcmaaGreat.V
open Go.RowKit
attribute [local irreducible] dI wpOps ib Call
attribute [local go_sem] aJ gu eW gR gQ cE upd cw K.av cY AV.cells AV.cell rowOf rowsOf part ld rowAt bB cr dY eG jq bP dq eT gP fx dE eK dn dm eu ew bU bp db bR de dc eI eL eJ da cm dp eH bQ aO di cI jo bE cU bV aY du aV ea AV.undef bG bJ eA eE ei ep cJ eR eV cG eO eM dh dj List.getD_cons_zero List.getD_cons_succ List.getD_nil List.all_cons List.all_nil Bool.and_true Bool.true_and Bool.and_self Bool.not_true Bool.not_false Option.map_some Option.map_none Option.bind_some Option.bind_none List.length_cons List.length_nil List.take_succ_cons List.take_zero List.take_nil List.drop_succ_cons List.drop_zero List.drop_nil List.head?_cons List.map_cons List.map_nil List.getElem?_cons_zero List.getElem?_cons_succ List.cons_append List.nil_append List.append_nil List.length_map List.set_cons_zero List.set_cons_succ Nat.reduceMul eq_self Int.toNat_natCast Int.natCast_nonneg and_self true_and and_true decide_true decide_false Bool.false_eq_true Nat.zero_add Nat.add_zero List.contains_cons List.contains_nil Bool.or_false Bool.false_or beq_self_eq_true Nat.reduceBEq ne_eq not_true_eq_false not_false_eq_true Id.mk.injEq false_and and_false Nat.reduceLT Int.reduceLE Int.reduceLT Int.reduceToNat Int.reduceNeg Int.reduceAdd Nat.le_refl List.length_append beq_true beq_false Bool.not_eq_eq_eq_not or_false false_or eh ao aq aK br bI cC bc bz aQ bt cX cj
theorem xI {s:aC} {l:List ae}:iN s l=0↔wb s/\jw s.aB l/\kd s.aX.ah l=true:=by
 unfold iN
 cases b:qg s l
 ·simp;intro h1 h2;exact absurd (qh.2 ⟨h1,h2⟩) (by rw[b];simp)
 ·obtain⟨h1,h2⟩:=qh.1 b
  cases kd s.aX.ah l<;>simp[h1,h2]
noncomputable def jG (s:aC) (l:List ae):Bool×Int:=if iN s l=0 then(!(iy s l).isSome,0)else(false,iN s l)
theorem EB (s:aC) (l:List ae) (hn:fK s.aB) (hg:s.aB.aA.length<=1048576) (ht:s.aB.ah.length<=1048576):aj Tryz.prog 22 [.agg (aw s),.agg [.sl (l.map ad)]] (.gN [.bool (jG s l).1,.int .i64 (jG s l).2]):=by
 refine aj.body ej rfl fun mm n0=>?_
 clear mm
 have h1:=Fz s l hn hg ht
 by_cases h0:iN s l=0
 ·obtain⟨hP,hA,hW⟩:=xI.1 h0
  have hr:jG s l=(!(iy s l).isSome,0):=by rw[jG,if_pos h0]
  have h2:=CK s hP l hA
  rw[h0]at h1
  rw[hr]
  rw[aw]at h1 h2 ⊢
  rcases hf:iy s l with _|⟨p,t⟩
  ·rw[hf]at h2
   simp only[HY,Option.isSome_none]at h2
   (repeat(first|((repeat(revert hN;revert N;apply Pn.out));refine wk @Nat.zero_add ?_;(repeat(refine Pn.mk ?_;intro N hN)))|((try apply Or.inl);refine⟨_,aj.x (h1) (sd @Nat.zero_add),?_⟩;refine hN _ _ ?_;clear hN N)|((try apply Or.inl);refine⟨_,aj.x (h2) (sd @Nat.zero_add),?_⟩;refine hN _ _ ?_;clear hN N)))
   exact gz (.inl rfl) (r1:=.bool true) (r2:=.int .i64 0) (sd @Nat.zero_add) (sd @Nat.zero_add) (by simp only[dU,aP,bx,dO,dL,Option.map_some,Option.isSome_none,Bool.not_false])
  ·rw[hf]at h2
   simp only[HY,Option.isSome_some]at h2
   (repeat(first|((repeat(revert hN;revert N;apply Pn.out));refine wk @Nat.zero_add ?_;(repeat(refine Pn.mk ?_;intro N hN)))|((try apply Or.inl);refine⟨_,aj.x (h1) (sd @Nat.zero_add),?_⟩;refine hN _ _ ?_;clear hN N)|((try apply Or.inl);refine⟨_,aj.x (h2) (sd @Nat.zero_add),?_⟩;refine hN _ _ ?_;clear hN N)))
   exact gz (.inl rfl) (r1:=.bool false) (r2:=.int .i64 0) (sd @Nat.zero_add) (sd @Nat.zero_add) (by simp only[dU,aP,bx,dO,dL,Option.map_some,Option.isSome_some,Bool.not_true])
 ·have hd:decide (iN s l=0)=false:=decide_eq_false h0
  have hr:jG s l=(false,iN s l):=by rw[jG,if_neg h0]
  rw[hr]
  rw[aw]at h1 ⊢
  (repeat(first|((repeat(revert hN;revert N;apply Pn.out));refine wk @hd ?_;(repeat(refine Pn.mk ?_;intro N hN)))|((try apply Or.inl);refine⟨_,aj.x (h1) (sd @hd),?_⟩;refine hN _ _ ?_;clear hN N)))
  exact gz (.inl rfl) (r1:=.bool false) (r2:=.int .i64 (iN s l)) (sd @Nat.zero_add) (sd @Nat.zero_add) (by simp only[dU,aP,bx,dO,dL,Option.map_some])
end Go.Proofs.YtgoelphibofcmaaGreat.V

namespace Go.Proofs.YtgoelphibofcmaaGreat.V
open Go.RowKit
attribute [local irreducible] dI wpOps ib Call
attribute [local go_sem] aJ gu eW gR gQ cE upd cw K.av cY AV.cells AV.cell rowOf rowsOf part ld rowAt bB cr dY eG jq bP dq eT gP fx dE eK dn dm eu ew bU bp db bR de dc eI eL eJ da cm dp eH bQ aO di cI jo bE cU bV aY du aV ea AV.undef bG bJ eA eE ei ep cJ eR eV cG eO eM dh dj List.getD_cons_zero List.getD_cons_succ List.getD_nil List.all_cons List.all_nil Bool.and_true Bool.true_and Bool.and_self Bool.not_true Bool.not_false Option.map_some Option.map_none Option.bind_some Option.bind_none List.length_cons List.length_nil List.take_succ_cons List.take_zero List.take_nil List.drop_succ_cons List.drop_zero List.drop_nil List.head?_cons List.map_cons List.map_nil List.getElem?_cons_zero List.getElem?_cons_succ List.cons_append List.nil_append List.append_nil List.length_map List.set_cons_zero List.set_cons_succ Nat.reduceMul eq_self Int.toNat_natCast Int.natCast_nonneg and_self true_and and_true decide_true decide_false Bool.false_eq_true Nat.zero_add Nat.add_zero List.contains_cons List.contains_nil Bool.or_false Bool.false_or beq_self_eq_true Nat.reduceBEq ne_eq not_true_eq_false not_false_eq_true Id.mk.injEq false_and and_false Nat.reduceLT Int.reduceLE Int.reduceLT Int.reduceToNat Int.reduceNeg Int.reduceAdd Nat.le_refl List.length_append beq_true beq_false Bool.not_eq_eq_eq_not or_false false_or eh ao aq aK br bI cC bc bz aQ bt cX cj
noncomputable def Jj (s:aC) (l:List ae) (p:ai) (t:Int):Bool:=decide (¬fG l p=t)&&decide (s.az<=nE s.aB (fG l) p t)
structure GD (g:Rows) (n:Nat) (A S C c T O:Id) (s:aC) (l:List ae):Prop where
 a:∃b,g A=some ⟨b,1,[[.sl (l.map ad)]]⟩
 sy:∃b,g S=some ⟨b,4,[aw s]⟩
 p:∃b,g C=some ⟨b,1,[[.ptr c 0 0]]⟩
 DI:Bw g n c T O s l
 av:A.aW<n
 sv:S.aW<n
 pv:C.aW<n
theorem GD.ro {g:Rows} {n:Nat} {A S C c T O:Id} {s:aC} {l:List ae} (h:GD g n A S C c T O s l):GD (V.ro g) n A S C c T O s l:=by
 obtain⟨b,h1⟩:=h.a
 obtain⟨b2,h2⟩:=h.sy
 obtain⟨b3,h3⟩:=h.p
 exact⟨⟨false,by simp[V.ro,h1]⟩,⟨false,by simp[V.ro,h2]⟩,⟨false,by simp[V.ro,h3]⟩,h.DI.ro,h.av,h.sv,h.pv⟩
theorem GD.frame {g g':Rows} {n n':Nat} {A S C c T O:Id} {s:aC} {l:List ae} (h:GD g n A S C c T O s l) (hn:n<=n') (hf:∀x:Id,x.aW<n->g' x=g x):GD g' n' A S C c T O s l:=
 ⟨by rw[hf _ h.av];exact h.a,by rw[hf _ h.sv];exact h.sy,by rw[hf _ h.pv];exact h.p,h.DI.frame hn (hf _ h.DI.cv) (hf _ h.DI.tv),Nat.lt_of_lt_of_le h.av hn,Nat.lt_of_lt_of_le h.sv hn,Nat.lt_of_lt_of_le h.pv hn⟩
theorem IS {σ:ar} {A S C c T O:Id} {s:aC} {l:List ae} (h:GD σ.get σ.next A S C c T O s l) (hS:gW s.aB) (hA:jw s.aB l) (p:ai) (hx:iB p.eB) (hy:iB p.ek) (t:Int) (ht:ez s.aB t=true):
  Call Tryz.prog 119 [.agg (aa p),.int .i64 t,.ptr A 0 0,.ptr S 0 0,.ptr C 0 0] σ (fun r _=>r=.bool (Jj s l p t)):=by
 refine gT ej rfl fun mm=>?_
 clear mm
 obtain⟨b1,h1⟩:=h.a
 obtain⟨b2,h2⟩:=h.sy
 obtain⟨b3,h3⟩:=h.p
 have v1:=dv h.av
 have v2:=dv h.sv
 have v3:=dv h.pv
 have vW:=Jo l p hA.1.FQ (by have:=hA.1.so;omega)
 have hb:=jL hS (fG l) p t 4
 by_cases h0:fG l p=t
 ·have hd:decide (fG l p=t)=true:=decide_eq_true h0
  (repeat(first|((repeat(revert hN;revert N;apply Pn.out));refine wk (tw @h1 (tw @h2 (tw @h3 (tw @v1 (tw @v2 (tw @v3 (tw @hd (tw @aw.eq_1 @aa.eq_1)))))))) ?_;(repeat(refine Pn.mk ?_;intro N hN)))|((try apply Or.inl);refine⟨_,aj.x (vW) (sd (tw @h1 (tw @h2 (tw @h3 (tw @v1 (tw @v2 (tw @v3 (tw @hd (tw @aw.eq_1 @aa.eq_1))))))))),?_⟩;refine hN _ _ ?_;clear hN N)))
  exact gD (.inl rfl) (vs:=[.bool false]) (sd @Nat.zero_add) (by rw[show Jj s l p t=false by simp[Jj,h0]];rfl)
 ·have hd:decide (fG l p=t)=false:=decide_eq_false h0
  (repeat(first|((repeat(revert hN;revert N;apply Pn.out));refine wk (tw @h1 (tw @h2 (tw @h3 (tw @v1 (tw @v2 (tw @v3 (tw @hd (tw @aw.eq_1 @aa.eq_1)))))))) ?_;(repeat(refine Pn.mk ?_;intro N hN)))|((try apply Or.inl);refine⟨_,aj.x (vW) (sd (tw @h1 (tw @h2 (tw @h3 (tw @v1 (tw @v2 (tw @v3 (tw @hd (tw @aw.eq_1 @aa.eq_1))))))))),?_⟩;refine hN _ _ ?_;clear hN N)))
  refine⟨_,wW (h.DI.frame (by(try dsimp only);omega) (by(have v4:=dv h.DI.cv);simp only[go_sem, ↓reduceIte,Nat.reduceEqDiff,Nat.reduceAdd,Nat.reduceSub,Nat.reduceLeDiff,reduceCtorEq,v4]) (by(have v5:=dv h.DI.tv);simp only[go_sem, ↓reduceIte,Nat.reduceEqDiff,Nat.reduceAdd,Nat.reduceSub,Nat.reduceLeDiff,reduceCtorEq,v5])) hS (gW.KY hA) p hx hy t ht,?_⟩
  refine hN _ _ ?_
  clear hN N
  (repeat(first|((repeat(revert hN;revert N;apply Pn.out));refine wk (tw @h1 (tw @h2 (tw @h3 (tw @v1 (tw @v2 (tw @v3 (tw @hd (tw @aw.eq_1 @aa.eq_1)))))))) ?_;(repeat(refine Pn.mk ?_;intro N hN)))|((try apply Or.inl);refine⟨_,aj.x (vW) (sd (tw @h1 (tw @h2 (tw @h3 (tw @v1 (tw @v2 (tw @v3 (tw @hd (tw @aw.eq_1 @aa.eq_1))))))))),?_⟩;refine hN _ _ ?_;clear hN N)))
  exact gD (.inl rfl) (vs:=[.bool (decide (s.az<=nE s.aB (fG l) p t))]) (sd @Nat.zero_add) (by rw[show Jj s l p t=decide (s.az<=nE s.aB (fG l) p t) by simp[Jj,h0]];rfl)
theorem IT {σ:ar} {A S C c T O:Id} {s:aC} {l:List ae} (h:GD σ.get σ.next A S C c T O s l) (hS:gW s.aB) (hA:jw s.aB l) (p:ai) (hx:iB p.eB) (hy:iB p.ek) (t:Int) (ht:ez s.aB t=true):
  ib (Call Tryz.prog) 119 [.agg (aa p),.int .i64 t,.ptr A 0 0,.ptr S 0 0,.ptr C 0 0] σ (fun r=>r=.bool (Jj s l p t)):=by
 unfold ib PC
 exact Or.inl (aU _ _ _ _ _ (fun r σ' hr=>⟨_,by rw[hr];exact br _ _ _,rfl⟩) (IS (σ:=⟨V.ro σ.get,σ.next⟩) h.ro hS hA p hx hy t ht))
noncomputable def wO (s:aC) (l:List ae) (p:ai):Nat->List ae
 |0=>[]
 |t+1=>if Jj s l p (t:Nat)=true then wO s l p t++[⟨p,(t:Nat)⟩]else wO s l p t
noncomputable def r7 (s:aC) (l:List ae) (ps:List ai):List ae:=ps.flatMap fun p=>wO s l p s.aB.ah.length
theorem zt (s:aC) (l:List ae) (p:ai):∀t,(wO s l p t).length<=t
 |0=>by simp[wO]
 |t+1=>by
  have:=zt s l p t
  rw[wO]
  split
  ·rw[List.length_append,List.length_singleton];omega
  ·omega
theorem Et (s:aC) (l:List ae):∀ps:List ai,(r7 s l ps).length<=ps.length*s.aB.ah.length
 |[]=>by simp[r7]
 |p::ps=>by
  have h:=Et s l ps
  have h2:=zt s l p s.aB.ah.length
  unfold r7 at *
  rw[List.flatMap_cons,List.length_append,List.length_cons,Nat.add_mul,Nat.one_mul]
  omega
theorem IK {s:aC} {l:List ae} {ps:List ai} {k:Nat} (hk:k<ps.length):r7 s l (ps.take (k+1))=r7 s l (ps.take k)++wO s l (fj ps k) s.aB.ah.length:=by
 unfold r7
 rw[List.take_succ_eq_append_getElem hk,List.flatMap_append,gJ hk]
 simp
def KU (m:Nat) (L:List ae) (v:AV) (g:Rows) (n:Nat):Prop:=(L=[]/\v=.cu)∨∃o:Id,v=.own o 0 L.length/\g o=some ⟨true,3,L.map ad⟩/\m<=o.aW/\o.aW<n/\0<L.length/\o.site=118009005
theorem F5 {σ:ar} {A S C c T O:Id} {s:aC} {l:List ae} (h:GD σ.get σ.next A S C c T O s l) (hS:gW s.aB) (hA:jw s.aB l) (ps:List ai) (X:List (List AV)) (hl:ps.length<=10000) (Jd:∀p∈ps,rT p=true) (o:Id) (lO:o.aW<σ.next) (ho:σ.get o=some ⟨true,2,ps.map aa++X⟩):
  Call Tryz.prog 118 [.ptr c 0 0,.own o 0 ps.length,.fn 119 [.ptr A 0 0,.ptr S 0 0,.ptr C 0 0]] σ (fun r σ'=>KU σ.next (r7 s l ps) r σ'.get σ'.next):=by
 refine gT ej rfl fun mm=>?_
 clear mm
 have Jg:=hS.Bj
 have vo:=dv lO
 (try((repeat(revert hN;revert N;apply Pn.out));refine wk (tw @ho @vo) ?_;(repeat(refine Pn.mk ?_;intro N hN))))
 refine aH (fun n env st=>∃k:Nat,n=(ps.length)-k/\k<=(ps.length)/\env 13=.int .i64 (k:Int)/\(σ.next<=st.next/\(∀y:Id,y.aW<σ.next->st.get y=σ.get y)/\KU σ.next (r7 s l (ps.take k)) (env 7) st.get st.next)) (ps.length) ⟨0,by omega,by omega,sl @Nat.zero_add,by(try dsimp only);exact⟨by omega,fun y hy=>by
  have h1:=dv hy
  simp only[go_sem, ↓reduceIte,Nat.reduceEqDiff,Nat.reduceAdd,Nat.reduceSub,Nat.reduceLeDiff,reduceCtorEq,h1],.inl ⟨rfl,sd @Nat.zero_add⟩⟩⟩ ?_
 rintro n_a env_a st_a ⟨k,rfl,ale,a13,nf⟩ dt
 have a0:=dt 0 (by kernel_rfl);have a2:=dt 2 (by kernel_rfl);have BR:=dt 11 (by kernel_rfl);have a12:=dt 12 (by kernel_rfl)
 simp only[go_sem, ↓reduceIte,Nat.reduceEqDiff,Nat.reduceAdd,Nat.reduceSub,Nat.reduceLeDiff,reduceCtorEq]at a0 a2 BR a12
 clear dt
 obtain⟨an,dt,a7⟩:=nf
 by_cases hk:(k:Int)<(ps.length:Int)
 ·have bY:∀{e:Env} {gg:Rows} {nx:Nat},(e 13=.int .i64 (IntKind.i64.wrap ((k:Int)+1)))->(σ.next<=nx/\(∀y:Id,y.aW<σ.next->gg y=σ.get y)/\KU σ.next (r7 s l (ps.take (k+1))) (e 7) gg nx)->∃m0,m0<(ps.length)-k/\∃k:Nat,m0=(ps.length)-k/\k<=(ps.length)/\e 13=.int .i64 (k:Int)/\(σ.next<=nx/\(∀y:Id,y.aW<σ.next->gg y=σ.get y)/\KU σ.next (r7 s l (ps.take k)) (e 7) gg nx):=fun x1 x2=>⟨_,by omega,k+1,rfl,by omega,(by rw[x1,ax (by omega)]),x2⟩
  have eZ:k<ps.length:=by omega
  have BD:=Jd _ (y4 eZ)
  obtain⟨hx,hy⟩:=nY BD
  have ha:GD st_a.get st_a.next A S C c T O s l:=h.frame an dt
  obtain⟨b,h1⟩:=ha.DI.row
  have v1:=dv ha.DI.cv
  have uz:=(dt o lO).trans ho
  have vao:=dv (i:=o) (n:=st_a.next) (by omega)
  have gp:(ps.map aa++X)[k]? =some (aa (fj ps k)):=by rw[List.getElem?_append_left (by simp;omega),qF eZ]
  (try((repeat(revert hN;revert N;apply Pn.out));refine wk (tw @a13 (tw @a0 (tw @a2 (tw @BR (tw @a12 (tw @hk (tw @h1 (tw @v1 (tw @uz (tw @vao (tw @gp @aa.eq_1))))))))))) ?_;(repeat(refine Pn.mk ?_;intro N hN))))
  have hB:(r7 s l (ps.take k)).length<=10000*160:=by
   have h2:=Et s l (ps.take k)
   have h3:(ps.take k).length*s.aB.ah.length<=10000*160:=Nat.mul_le_mul (by rw[List.length_take];omega) Jg
   omega
  refine aH (fun n env st=>∃t:Nat,n=(s.aB.ah.length)-t/\t<=(s.aB.ah.length)/\env 24=.int .i64 (t:Int)/\st.get ⟨118004002,st_a.next+1⟩=some ⟨true,2,[aa (fj ps k)]⟩/\(st_a.next+2<=st.next/\(∀y:Id,y.aW<σ.next->st.get y=σ.get y)/\KU σ.next (r7 s l (ps.take k)++wO s l (fj ps k) t) (env 7) st.get st.next)) (s.aB.ah.length) ⟨0,by omega,by omega,sl (tw @a13 (tw @a0 (tw @a2 (tw @BR (tw @a12 @aa.eq_1))))),sl (tw @a13 (tw @a0 (tw @a2 (tw @BR (tw @a12 @aa.eq_1))))),by(try dsimp only);exact⟨by omega,fun y hy=>by
   have h2:=dv (i:=y) (n:=st_a.next) (by omega)
   have h3:=dt y hy
   simp only[go_sem, ↓reduceIte,Nat.reduceEqDiff,Nat.reduceAdd,Nat.reduceSub,Nat.reduceLeDiff,reduceCtorEq,h2,h3],by
   rw[show wO s l (fj ps k) 0=[]from rfl,List.append_nil]
   rcases a7 with⟨h2,h3⟩|⟨u,h2,h3,h4,h5,h6,h8⟩
   ·exact .inl ⟨h2,sd @h3⟩
   ·have h7:=dv h5
    exact .inr ⟨u,sd @h2,sd (tw @h3 @h7),h4,by omega,h6,h8⟩⟩⟩ ?_
  rintro n_b env_b st_b ⟨t,rfl,ble,b24,bg0,bI0⟩ ec
  have b0:=ec 0 (by kernel_rfl);have b2:=ec 2 (by kernel_rfl);have b9:=ec 9 (by kernel_rfl);have DD:=ec 11 (by kernel_rfl);have IX:=ec 12 (by kernel_rfl);have IY:=ec 13 (by kernel_rfl);have IZ:=ec 23 (by kernel_rfl)
  simp only[go_sem, ↓reduceIte,Nat.reduceEqDiff,Nat.reduceAdd,Nat.reduceSub,Nat.reduceLeDiff,reduceCtorEq,a13,a0,a2,BR,a12,aa]at b0 b2 b9 DD IX IY IZ
  clear ec
  obtain⟨bn,ec,b7⟩:=bI0
  have hb:GD st_b.get st_b.next A S C c T O s l:=h.frame (by omega) ec
  have tG:=dv (i:=⟨118004002,st_a.next+1⟩) (n:=st_b.next) (by(try dsimp only);omega)
  have Gg:(r7 s l (ps.take k)++wO s l (fj ps k) t).length<=16777215:=by
   have:=zt s l (fj ps k) t
   rw[List.length_append];omega
  obtain⟨L,hL⟩:∃L,r7 s l (ps.take k)++wO s l (fj ps k) t=L:=⟨_,rfl⟩
  rw[hL]at b7 Gg
  by_cases ht:(t:Int)<(s.aB.ah.length:Int)
  ·have er:∀{e:Env} {gg:Rows} {nx:Nat},(e 24=.int .i64 (IntKind.i64.wrap ((t:Int)+1)))->(gg ⟨118004002,st_a.next+1⟩=some ⟨true,2,[aa (fj ps k)]⟩)->(st_a.next+2<=nx/\(∀y:Id,y.aW<σ.next->gg y=σ.get y)/\KU σ.next (r7 s l (ps.take k)++wO s l (fj ps k) (t+1)) (e 7) gg nx)->∃m0,m0<(s.aB.ah.length)-t/\∃t:Nat,m0=(s.aB.ah.length)-t/\t<=(s.aB.ah.length)/\e 24=.int .i64 (t:Int)/\gg ⟨118004002,st_a.next+1⟩=some ⟨true,2,[aa (fj ps k)]⟩/\(st_a.next+2<=nx/\(∀y:Id,y.aW<σ.next->gg y=σ.get y)/\KU σ.next (r7 s l (ps.take k)++wO s l (fj ps k) t) (e 7) gg nx):=fun x1 x2 x3=>⟨_,by omega,t+1,rfl,by omega,(by rw[x1,ax (by omega)]),x2,x3⟩
   have MV:t<s.aB.ah.length:=by omega
   (try((repeat(revert hN;revert N;apply Pn.out));refine wk (tw @b24 (tw @bg0 (tw @b0 (tw @b2 (tw @b9 (tw @DD (tw @IX (tw @IY (tw @IZ (tw @ht (tw @tG @aa.eq_1))))))))))) ?_;(repeat(refine Pn.mk ?_;intro N hN))))
   refine .inl ⟨_,IT (hb.frame (by(try dsimp only);omega) (fun y hy=>by
    have h2:=dv hy
    simp only[go_sem, ↓reduceIte,Nat.reduceEqDiff,Nat.reduceAdd,Nat.reduceSub,Nat.reduceLeDiff,reduceCtorEq,h2])) hS hA (fj ps k) hx hy t (vN MV),?_⟩
   refine hN _ _ ?_
   clear hN N
   cases hw:Jj s l (fj ps k) t
   ·have iR:r7 s l (ps.take k)++wO s l (fj ps k) (t+1)=L:=by rw[wO,hw];exact hL
    (try((repeat(revert hN;revert N;apply Pn.out));refine wk (tw @b24 (tw @bg0 (tw @b0 (tw @b2 (tw @b9 (tw @DD (tw @IX (tw @IY (tw @IZ @hw))))))))) ?_;(repeat(refine Pn.mk ?_;intro N hN))))
    refine er ?_ ?_ (by(try dsimp only);exact⟨by omega,fun y hy=>by
     have h2:=dv (i:=y) (n:=st_b.next) (by omega)
     have h3:=ec y hy
     simp only[go_sem, ↓reduceIte,Nat.reduceEqDiff,Nat.reduceAdd,Nat.reduceSub,Nat.reduceLeDiff,reduceCtorEq,h2,h3],by
     rw[iR]
     rcases b7 with⟨h2,h3⟩|⟨u,h2,h3,h4,h5,h6,h8⟩
     ·exact .inl ⟨h2,sd @h3⟩
     ·have h7:=dv h5
      exact .inr ⟨u,sd @h2,sd (tw @h3 @h7),h4,by omega,h6,h8⟩⟩)
    all_goals simp only[go_sem, ↓reduceIte,Nat.reduceEqDiff,Nat.reduceAdd,Nat.reduceSub,Nat.reduceLeDiff,reduceCtorEq,b24,bg0,b0,b2,b9,DD,IX,IY,IZ,tG,aa]
   ·have iR:r7 s l (ps.take k)++wO s l (fj ps k) (t+1)=L++[⟨fj ps k,(t:Nat)⟩]:=by rw[wO,hw,if_pos rfl,<-hL,List.append_assoc]
    have Gk:(L++[(⟨fj ps k,(t:Nat)⟩:ae)]).length=L.length+1:=by rw[List.length_append];rfl
    have zI:(L++[(⟨fj ps k,(t:Nat)⟩:ae)]).map ad=L.map ad++[[.int .i64 (fj ps k).eB,.int .i64 (fj ps k).ek,.int .i64 (t:Int)]]:=by rw[List.map_append];rfl
    rcases b7 with⟨h2,b7⟩|⟨u,b7,bu,h4,h5,h6,h8⟩
    ·subst h2
     (try((repeat(revert hN;revert N;apply Pn.out));refine wk (tw @b24 (tw @bg0 (tw @b0 (tw @b2 (tw @b9 (tw @DD (tw @IX (tw @IY (tw @IZ (tw @b7 (tw @hw (tw @tG @aa.eq_1)))))))))))) ?_;(repeat(refine Pn.mk ?_;intro N hN))))
     refine er ?_ ?_ (by(try dsimp only);exact⟨by omega,fun y hy=>by
      have h2:=dv (i:=y) (n:=st_b.next) (by omega)
      have h3:=ec y hy
      simp only[go_sem, ↓reduceIte,Nat.reduceEqDiff,Nat.reduceAdd,Nat.reduceSub,Nat.reduceLeDiff,reduceCtorEq,h2,h3],.inr ⟨⟨118009005,st_b.next+1+1+1⟩,by rw[iR,Gk];simp only[go_sem, ↓reduceIte,Nat.reduceEqDiff,Nat.reduceAdd,Nat.reduceSub,Nat.reduceLeDiff,reduceCtorEq]<;>rfl,by rw[iR,zI];simp only[go_sem, ↓reduceIte,Nat.reduceEqDiff,Nat.reduceAdd,Nat.reduceSub,Nat.reduceLeDiff,reduceCtorEq]<;>rfl,by(try dsimp only);omega,by(try dsimp only);omega,by rw[iR,Gk];omega,rfl⟩⟩)
     all_goals simp only[go_sem, ↓reduceIte,Nat.reduceEqDiff,Nat.reduceAdd,Nat.reduceSub,Nat.reduceLeDiff,reduceCtorEq,b24,bg0,b0,b2,b9,DD,IX,IY,IZ,tG,aa]
    ·have IJ:=dv h5
     have ux:((⟨118004002,st_a.next+1⟩:Id)=u)=False:=eq_false fun e=>by rw[<-e]at h8;exact absurd (show(118004002:Nat)=118009005 from h8) (by decide)
     have pI:(L.map ad).length=L.length:=by simp
     (try((repeat(revert hN;revert N;apply Pn.out));refine wk (tw @b24 (tw @bg0 (tw @b0 (tw @b2 (tw @b9 (tw @DD (tw @IX (tw @IY (tw @IZ (tw @b7 (tw @bu (tw @hw (tw @tG (tw @IJ (tw @ux (tw @pI (tw @Gg @aa.eq_1))))))))))))))))) ?_;(repeat(refine Pn.mk ?_;intro N hN))))
     refine er ?_ ?_ (by(try dsimp only);exact⟨by omega,fun y hy=>by
      have h2:=dv (i:=y) (n:=st_b.next) (by omega)
      have h3:=ec y hy
      have h9:=cQ (a:=y) (b:=u) (by omega)
      simp only[go_sem, ↓reduceIte,Nat.reduceEqDiff,Nat.reduceAdd,Nat.reduceSub,Nat.reduceLeDiff,reduceCtorEq,h2,h3,h9],.inr ⟨⟨118009005,st_b.next+1+1+1⟩,by rw[iR,Gk];simp only[go_sem, ↓reduceIte,Nat.reduceEqDiff,Nat.reduceAdd,Nat.reduceSub,Nat.reduceLeDiff,reduceCtorEq]<;>rfl,by rw[iR,zI];simp only[go_sem, ↓reduceIte,Nat.reduceEqDiff,Nat.reduceAdd,Nat.reduceSub,Nat.reduceLeDiff,reduceCtorEq]<;>rfl,by(try dsimp only);omega,by(try dsimp only);omega,by rw[iR,Gk];omega,rfl⟩⟩)
     all_goals simp only[go_sem, ↓reduceIte,Nat.reduceEqDiff,Nat.reduceAdd,Nat.reduceSub,Nat.reduceLeDiff,reduceCtorEq,b24,bg0,b0,b2,b9,DD,IX,IY,IZ,tG,ux,aa]
  ·have ht4:t=s.aB.ah.length:=by omega
   subst ht4
   (try((repeat(revert hN;revert N;apply Pn.out));refine wk (tw @b24 (tw @bg0 (tw @b0 (tw @b2 (tw @b9 (tw @DD (tw @IX (tw @IY (tw @IZ @ht))))))))) ?_;(repeat(refine Pn.mk ?_;intro N hN))))
   exact bY (sd (tw @a13 (tw @a0 (tw @a2 (tw @BR (tw @a12 (tw @b24 (tw @bg0 (tw @b0 (tw @b2 (tw @b9 (tw @DD (tw @IX (tw @IY @IZ)))))))))))))) (by(try dsimp only);exact⟨by omega,fun y hy=>ec y hy,by
    rw[IK eZ,hL]
    rcases b7 with⟨h2,h3⟩|⟨u,h2,h3,h4,h5,h6,h8⟩
    ·exact .inl ⟨h2,sd @h3⟩
    ·exact .inr ⟨u,sd @h2,sd @h3,h4,by omega,h6,h8⟩⟩)
 ·have kQ:k=ps.length:=by omega
  subst kQ
  rw[List.take_length]at a7
  (try((repeat(revert hN;revert N;apply Pn.out));refine wk (tw @a13 (tw @a0 (tw @a2 (tw @BR (tw @a12 @hk))))) ?_;(repeat(refine Pn.mk ?_;intro N hN))))
  refine gD (.inl rfl) (vs:=[env_a 7]) (sd @Nat.zero_add) ?_
  rcases a7 with⟨h2,h3⟩|⟨u,h2,h3,h4,h5,h6,h8⟩
  ·exact .inl ⟨h2,h3⟩
  ·exact .inr ⟨u,h2,h3,h4,by(try dsimp only);omega,h6,h8⟩
end Go.Proofs.YtgoelphibofcmaaGreat.V

namespace Go.Proofs.YtgoelphibofcmaaGreat.V
open Go.RowKit
attribute [local irreducible] dI wpOps ib Call
attribute [local go_sem] aJ gu eW gR gQ cE upd cw K.av cY AV.cells AV.cell rowOf rowsOf part ld rowAt bB cr dY eG jq bP dq eT gP fx dE eK dn dm eu ew bU bp db bR de dc eI eL eJ da cm dp eH bQ aO di cI jo bE cU bV aY du aV ea AV.undef bG bJ eA eE ei ep cJ eR eV cG eO eM dh dj List.getD_cons_zero List.getD_cons_succ List.getD_nil List.all_cons List.all_nil Bool.and_true Bool.true_and Bool.and_self Bool.not_true Bool.not_false Option.map_some Option.map_none Option.bind_some Option.bind_none List.length_cons List.length_nil List.take_succ_cons List.take_zero List.take_nil List.drop_succ_cons List.drop_zero List.drop_nil List.head?_cons List.map_cons List.map_nil List.getElem?_cons_zero List.getElem?_cons_succ List.cons_append List.nil_append List.append_nil List.length_map List.set_cons_zero List.set_cons_succ Nat.reduceMul eq_self Int.toNat_natCast Int.natCast_nonneg and_self true_and and_true decide_true decide_false Bool.false_eq_true Nat.zero_add Nat.add_zero List.contains_cons List.contains_nil Bool.or_false Bool.false_or beq_self_eq_true Nat.reduceBEq ne_eq not_true_eq_false not_false_eq_true Id.mk.injEq false_and and_false Nat.reduceLT Int.reduceLE Int.reduceLT Int.reduceToNat Int.reduceNeg Int.reduceAdd Nat.le_refl List.length_append beq_true beq_false Bool.not_eq_eq_eq_not or_false false_or eh ao aq aK br bI cC bc bz aQ bt cX cj
theorem Ej (a b:ai):(decide (a.eB=b.eB)&&decide (a.ek=b.ek))=decide (a=b):=by
 cases a;cases b;simp[Bool.decide_and]
theorem B3 (ps:List ai) (h0:ps≠[]) (hlen:ps.length<=1048576) (σ:ar) (id:Id) (hv:id.aW<σ.next) (hg:σ.get id=some ⟨true,2,ps.map aa⟩):
  Call Tryz.prog 203 [.own id 0 ps.length] σ fun a σ'=>∃o:Id,a=.own o 0 ps.length/\σ'.get o=some ⟨true,2,ps.map aa⟩/\σ.next<=o.aW/\o.aW<σ'.next/\∀x:Id,x.aW<σ.next->σ'.get x=σ.get x:=by
 refine gT ej rfl fun hl=>?_
 clear hl
 have h2:ps.length<=16777216:=by omega
 have hm:(ps.map aa).length=ps.length:=by simp
 have v1:=dv hv
 have ht:(ps.map aa).take ps.length=ps.map aa:=by rw[<-hm,List.take_length]
 have ha:(ps.map aa).all (fun c=>c.length==2&&c.all AV.cell)=true:=all_map fun x=>by simp[aa,AV.cell]
 (try((repeat(revert hN;revert N;apply Pn.out));refine wk (tw @hg (tw @h2 (tw @hm (tw @v1 (tw @ht @ha))))) ?_;(repeat(refine Pn.mk ?_;intro N hN))))
 exact gD (vs:=[.own ⟨203003002,σ.next+2⟩ 0 ps.length]) (.inl rfl) (sd @Nat.zero_add) ⟨_,rfl,sd @Nat.zero_add,by(try dsimp only);omega,by(try dsimp only);omega,fun x hx=>by
  have:=dv hx
  simp only[go_sem, ↓reduceIte,Nat.reduceEqDiff,Nat.reduceAdd,Nat.reduceSub,Nat.reduceLeDiff,reduceCtorEq,this]⟩
def dd (L:List ai):Nat->List ai
 |0=>[]
 |j+1=>if 0<j/\fj L j=fj L (j-1)then dd L j else dd L j++[fj L j]
theorem GV (L:List ai):∀j,0<j->0<(dd L j).length
 |j+1,_=>by
  rw[dd]
  split
  ·rename_i h;exact GV L j h.1
  ·simp
theorem ya {L:List ai} {x:ai}:∀j,x∈dd L j↔∃i,i<j/\fj L i=x
 |0=>by simp[dd]
 |j+1=>by
  rw[dd]
  split
  ·rename_i h
   rw[ya j]
   constructor
   ·rintro⟨i,hi,e⟩;exact⟨i,by omega,e⟩
   ·rintro⟨i,hi,e⟩
    by_cases DY:i=j
    ·subst DY;exact⟨i-1,by omega,by rw[<-h.2];exact e⟩
    ·exact⟨i,by omega,e⟩
  ·rw[List.mem_append,ya j]
   constructor
   ·rintro(⟨i,hi,e⟩|h)
    ·exact⟨i,by omega,e⟩
    ·exact⟨j,by omega,(List.mem_singleton.1 h).symm⟩
   ·rintro⟨i,hi,e⟩
    by_cases DY:i=j
    ·subst DY;exact .inr (List.mem_singleton.2 e.symm)
    ·exact .inl ⟨i,by omega,e⟩
theorem GW {L:List ai} (hs:∀i j:Nat,i<j->j<L.length->kg (fj L j) (fj L i)=false):∀j,j<=L.length->kR (dd L j)
 |0,_=>List.Pairwise.nil
 |j+1,hj=>by
  have ih:=GW hs j (by omega)
  rw[dd]
  split
  ·exact ih
  ·rename_i fY
   unfold kR
   rw[List.pairwise_append]
   refine⟨ih,List.pairwise_singleton _ _,fun a ha b hb=>?_⟩
   rw[List.mem_singleton.1 hb]
   obtain⟨i,hi,rfl⟩:=(ya j).1 ha
   have h0:0<j:=by omega
   have hn:fj L j≠fj L (j-1):=fun e=>fY ⟨h0,e⟩
   have dy:kg (fj L (j-1)) (fj L j)=true:=yN (hs (j-1) j (by omega) (by omega)) hn
   by_cases DY:i=j-1
   ·subst DY;exact dy
   ·have h1:=hs i (j-1) (by omega) (by omega)
    by_cases he:fj L (j-1)=fj L i
    ·rw[<-he];exact dy
    ·exact im (yN h1 he) dy
theorem EM (L:List ai) (hlen:L.length<=1000000) (σ:ar) (id:Id) (hg:σ.get id=some ⟨true,2,L.map aa⟩):
  Call Tryz.prog 204 [.own id 0 L.length] σ fun a σ'=>σ.next<=σ'.next/\(∀x:Id,x.aW<σ.next->x≠id->σ'.get x=σ.get x)/\∃X:List ai,a=.own id 0 (dd L L.length).length/\σ'.get id=some ⟨true,2,(dd L L.length++X).map aa⟩:=by
 refine gT ej rfl fun hl=>?_
 clear hl
 by_cases h2:(L.length:Int)<2
 ·have hd:dd L L.length=L:=by
   match L,h2 with
   |[],_=>rfl
   |[a],_=>rfl
   |a::b::r,h=>simp at h;omega
  (try((repeat(revert hN;revert N;apply Pn.out));refine wk @h2 ?_;(repeat(refine Pn.mk ?_;intro N hN))))
  exact gD (vs:=[.own id 0 L.length]) (.inl rfl) (sd @Nat.zero_add) ⟨by(try dsimp only);omega,fun _ _ _=>rfl,[],by rw[hd];rfl,by simp only[hd,List.append_nil];exact hg⟩
 (try((repeat(revert hN;revert N;apply Pn.out));refine wk @h2 ?_;(repeat(refine Pn.mk ?_;intro N hN))))
 have Pk:2<=L.length:=by omega
 refine aH (fun n env st=>∃k:Nat,n=(L.length-1)-k/\k<=(L.length-1)/\env 3=.int .i64 ((1+k:Nat):Int)/\(dd L (1+k)=L.take (1+k))/\(σ.next<=st.next/\∀x:Id,x.aW<σ.next->x≠id->st.get x=σ.get x)/\st.get id=some ⟨true,2,L.map aa⟩) (L.length-1) ⟨0,by omega,by omega,sl @hg,by(match L,Pk with|a::b::r,_=>rfl),⟨by(try dsimp only);omega,fun _ _ _=>rfl⟩,sl @hg⟩ ?_
 rintro n_a env_a st_a ⟨k,rfl,ale,a3,nf,aI1,ag0⟩ dt
 have a0:=dt 0 (by kernel_rfl)
 simp only[go_sem, ↓reduceIte,Nat.reduceEqDiff,Nat.reduceAdd,Nat.reduceSub,Nat.reduceLeDiff,reduceCtorEq,hg]at a0
 clear dt
 have hR:∀{q:Nat},q<L.length->(L.map aa)[q]? =some (aa (fj L q)):=fun h=>qF h
 by_cases hk:((1+k:Nat):Int)<(L.length:Int)
 ·have bY:∀{e:Env} {gg:Rows} {nx:Nat},(e 3=.int .i64 ((1+(k+1):Nat):Int))->(dd L (1+(k+1))=L.take (1+(k+1)))->(σ.next<=nx/\∀x:Id,x.aW<σ.next->x≠id->gg x=σ.get x)->(gg id=some ⟨true,2,L.map aa⟩)->∃m0,m0<(L.length-1)-k/\∃k:Nat,m0=(L.length-1)-k/\k<=(L.length-1)/\e 3=.int .i64 ((1+k:Nat):Int)/\(dd L (1+k)=L.take (1+k))/\(σ.next<=nx/\∀x:Id,x.aW<σ.next->x≠id->gg x=σ.get x)/\gg id=some ⟨true,2,L.map aa⟩:=fun x1 x2 x3 x4=>⟨_,by omega,k+1,rfl,by omega,x1,x2,x3,x4⟩
  have eZ:1+k<L.length:=by omega
  have e1:IntKind.i64.wrap (((1+k:Nat):Int)-1)=(k:Int):=by rw[aZ (by omega)];omega
  have e2:IntKind.i64.wrap (((1+k:Nat):Int)+1)=((1+(k+1):Nat):Int):=by rw[aZ (by omega)];omega
  have g1:=hR eZ
  have g2:=hR (show k<L.length by omega)
  have b2:(k:Int)<(L.length:Int):=by omega
  have JH:dd L (1+k+1)=if 0<1+k/\fj L (1+k)=fj L (1+k-1)then dd L (1+k)else dd L (1+k)++[fj L (1+k)]:=rfl
  rw[show 1+k-1=k from by omega]at JH
  cases he:(decide ((fj L (1+k)).eB=(fj L k).eB)&&decide ((fj L (1+k)).ek=(fj L k).ek))
  ·(try((repeat(revert hN;revert N;apply Pn.out));refine wk (tw @a3 (tw @ag0 (tw @a0 (tw @hk (tw @e1 (tw @g1 (tw @g2 (tw @b2 (tw @he @aa.eq_1))))))))) ?_;(repeat(refine Pn.mk ?_;intro N hN))))
   rw[Ej,decide_eq_false_iff_not]at he
   refine bY ?_ (by rw[show 1+(k+1)=1+k+1 from by omega,JH,if_neg (fun h=>he h.2),nf,List.take_succ_eq_append_getElem eZ,gJ eZ]) (by exact⟨by(try dsimp only);omega,fun x hx hi=>aI1.2 x hx hi⟩) ?_
   all_goals simp only[go_sem, ↓reduceIte,Nat.reduceEqDiff,Nat.reduceAdd,Nat.reduceSub,Nat.reduceLeDiff,reduceCtorEq,a3,ag0,a0,e2]
  ·have O5:=he
   rw[Ej,decide_eq_true_eq]at O5
   rw[if_pos ⟨by omega,O5⟩,nf]at JH
   have Aq:(dd L (1+k+1)).length=1+k:=by rw[JH,List.length_take];omega
   have Oe:L.map aa=(dd L (1+k+1)++L.drop (dd L (1+k+1)).length).map aa:=by rw[Aq,JH,List.take_append_drop]
   have b3:((1+k:Nat):Int)<=(L.length:Int):=by omega
   have JW:(dd L (1+k+1)++L.drop (1+k)).map aa=L.map aa:=by rw[Oe,Aq]
   (try((repeat(revert hN;revert N;apply Pn.out));refine wk (tw @a3 (tw @ag0 (tw @a0 (tw @hk (tw @e1 (tw @g1 (tw @g2 (tw @b2 (tw @b3 (tw @he @aa.eq_1)))))))))) ?_;(repeat(refine Pn.mk ?_;intro N hN))))
   refine aH (fun n env st=>∃m:Nat,n=(L.length-(1+k)-1)-m/\m<=(L.length-(1+k)-1)/\env 5=.int .i64 ((1+m:Nat):Int)/\env 3=.int .i64 ((dd L (1+k+1+m)).length:Int)/\((dd L (1+k+1+m)).length<=1+k+m)/\(σ.next<=st.next/\∀x:Id,x.aW<σ.next->x≠id->st.get x=σ.get x)/\st.get id=some ⟨true,2,(dd L (1+k+1+m)++L.drop (dd L (1+k+1+m)).length).map aa⟩) (L.length-(1+k)-1) ⟨0,by omega,by omega,sl (tw @a3 (tw @ag0 (tw @a0 (tw @Aq @JW)))),sl (tw @a3 (tw @ag0 (tw @a0 (tw @Aq @JW)))),by(rw[Nat.add_zero,Aq];omega),⟨by(try dsimp only);omega,fun x hx hi=>aI1.2 x hx hi⟩,sl (tw @a3 (tw @ag0 (tw @a0 (tw @Aq @JW))))⟩ ?_
   rintro n_b env_b st_b ⟨m,rfl,ble,b5,b3,bI0,bI1,bg0⟩ ec
   have b0:=ec 0 (by kernel_rfl);have b4:=ec 4 (by kernel_rfl)
   simp only[go_sem, ↓reduceIte,Nat.reduceEqDiff,Nat.reduceAdd,Nat.reduceSub,Nat.reduceLeDiff,reduceCtorEq,a3,ag0,a0,Aq,JW]at b0 b4
   clear ec
   clear Oe JW he ag0
   have fy:∀{q:Nat},(dd L (1+k+1+m)).length<=q->q<L.length->((dd L (1+k+1+m)++L.drop (dd L (1+k+1+m)).length).map aa)[q]? =some (aa (fj L q)):=fun {q} h1 h2=>by
    rw[List.getElem?_map,List.getElem?_append_right h1,List.getElem?_drop,show(dd L (1+k+1+m)).length+(q-(dd L (1+k+1+m)).length)=q from by omega,List.getElem?_eq_getElem h2,gJ h2];rfl
   have JI:dd L (1+k+1+(m+1))=if 0<1+k+1+m/\fj L (1+k+1+m)=fj L (1+k+1+m-1)then dd L (1+k+1+m)else dd L (1+k+1+m)++[fj L (1+k+1+m)]:=rfl
   rw[show 1+k+1+m-1=1+k+m from by omega]at JI
   have hKn:=GV L (1+k+1+m) (by omega)
   by_cases hm:((1+m:Nat):Int)<((L.length-(1+k):Nat):Int)
   ·have er:∀{e:Env} {gg:Rows} {nx:Nat},(e 5=.int .i64 ((1+(m+1):Nat):Int))->(e 3=.int .i64 ((dd L (1+k+1+(m+1))).length:Int))->((dd L (1+k+1+(m+1))).length<=1+k+(m+1))->(σ.next<=nx/\∀x:Id,x.aW<σ.next->x≠id->gg x=σ.get x)->(gg id=some ⟨true,2,(dd L (1+k+1+(m+1))++L.drop (dd L (1+k+1+(m+1))).length).map aa⟩)->∃m0,m0<(L.length-(1+k)-1)-m/\∃m:Nat,m0=(L.length-(1+k)-1)-m/\m<=(L.length-(1+k)-1)/\e 5=.int .i64 ((1+m:Nat):Int)/\e 3=.int .i64 ((dd L (1+k+1+m)).length:Int)/\((dd L (1+k+1+m)).length<=1+k+m)/\(σ.next<=nx/\∀x:Id,x.aW<σ.next->x≠id->gg x=σ.get x)/\gg id=some ⟨true,2,(dd L (1+k+1+m)++L.drop (dd L (1+k+1+m)).length).map aa⟩:=fun x1 x2 x3 x4 x5=>⟨_,by omega,m+1,rfl,by omega,x1,x2,x3,x4,x5⟩
    have f1:IntKind.i64.wrap (((1+m:Nat):Int)-1)=(m:Int):=by rw[aZ (by omega)];omega
    have f2:IntKind.i64.wrap (((1+m:Nat):Int)+1)=((1+(m+1):Nat):Int):=by rw[aZ (by omega)];omega
    have f3:(m:Int)<((L.length-(1+k):Nat):Int):=by omega
    have r1:=fy (q:=1+k+(1+m)) (by omega) (by omega)
    have r2:=fy (q:=1+k+m) (by omega) (by omega)
    rw[show 1+k+1+m=1+k+(1+m)from by omega]at *
    generalize hD:dd L (1+k+(1+m))=D at *
    have hK:D.length<L.length:=by omega
    have s1:=fy (q:=D.length) (Nat.le_refl _) hK
    have u4:(D.length:Int)<(L.length:Int):=by omega
    have f4:IntKind.i64.wrap ((D.length:Int)+1)=((D.length+1:Nat):Int):=ax (by omega)
    cases hc:(decide ((fj L (1+k+(1+m))).eB=(fj L (1+k+m)).eB)&&decide ((fj L (1+k+(1+m))).ek=(fj L (1+k+m)).ek))
    ·have yp:=hc
     rw[Ej,decide_eq_false_iff_not]at yp
     rw[if_neg (fun h=>yp h.2)]at JI
     have e6:((D++L.drop D.length).map aa).set D.length [.int .i64 (fj L (1+k+(1+m))).eB,.int .i64 (fj L (1+k+(1+m))).ek]=((D++[fj L (1+k+(1+m))])++L.drop (D.length+1)).map aa:=by
      have:(D++L.drop D.length).set D.length (fj L (1+k+(1+m)))=(D++[fj L (1+k+(1+m))])++L.drop (D.length+1):=by
       rw[List.set_append_right _ _ (Nat.le_refl _),Nat.sub_self,List.drop_eq_getElem_cons hK,List.set_cons_zero,List.append_assoc];rfl
      rw[<-this,List.map_set];rfl
     (try((repeat(revert hN;revert N;apply Pn.out));refine wk (tw @b5 (tw @b3 (tw @bg0 (tw @b0 (tw @b4 (tw @hm (tw @f1 (tw @f3 (tw @r1 (tw @r2 (tw @s1 (tw @u4 (tw @hc (tw @e6 @aa.eq_1)))))))))))))) ?_;(repeat(refine Pn.mk ?_;intro N hN))))
     refine er ?_ ?_ (by rw[JI];simp;omega) (by exact⟨by(try dsimp only);omega,fun x hx hi=>by
      have h1:=eq_false hi
      have h2:=bI1.2 x hx hi
      simp only[go_sem, ↓reduceIte,Nat.reduceEqDiff,Nat.reduceAdd,Nat.reduceSub,Nat.reduceLeDiff,reduceCtorEq,h1,h2]⟩) ?_
     all_goals simp only[go_sem, ↓reduceIte,Nat.reduceEqDiff,Nat.reduceAdd,Nat.reduceSub,Nat.reduceLeDiff,reduceCtorEq,b5,b3,bg0,b0,b4,f2,f4,JI,e6,aa]
    ·have yp:=hc
     rw[Ej,decide_eq_true_eq]at yp
     rw[if_pos ⟨by omega,yp⟩]at JI
     (try((repeat(revert hN;revert N;apply Pn.out));refine wk (tw @b5 (tw @b3 (tw @bg0 (tw @b0 (tw @b4 (tw @hm (tw @f1 (tw @f3 (tw @r1 (tw @r2 (tw @s1 (tw @u4 (tw @hc @aa.eq_1))))))))))))) ?_;(repeat(refine Pn.mk ?_;intro N hN))))
     refine er ?_ ?_ (by rw[JI];omega) (by exact⟨by(try dsimp only);omega,fun x hx hi=>bI1.2 x hx hi⟩) ?_
     all_goals simp only[go_sem, ↓reduceIte,Nat.reduceEqDiff,Nat.reduceAdd,Nat.reduceSub,Nat.reduceLeDiff,reduceCtorEq,b5,b3,bg0,b0,b4,f2,JI,aa]
   ·have hJ:1+k+1+m=L.length:=by omega
    rw[hJ]at bI0 bg0 b3
    generalize hD:dd L L.length=D at *
    have hK:D.length<L.length:=by omega
    have u4:(D.length:Int)<=(L.length:Int):=by omega
    have u5:D.length+(L.length-D.length)=L.length:=by omega
    have u6:(L.length-D.length)=(L.drop D.length).length:=by simp
    have c1:((D++L.drop D.length).map aa).take D.length=D.map aa:=by rw[<-List.map_take,List.take_append_of_le_length (Nat.le_refl _),List.take_length]
    have c2:((D++L.drop D.length).map aa).drop L.length=[]:=List.drop_eq_nil_of_le (by simp;omega)
    have c3:D.length+(L.length-D.length)<=((D++L.drop D.length).map aa).length:=by simp
    have u7:L.length<=D.length+(L.drop D.length).length:=by simp;omega
    (try((repeat(revert hN;revert N;apply Pn.out));refine wk (tw @b5 (tw @b3 (tw @bg0 (tw @b0 (tw @b4 (tw @hm (tw @u4 (tw @u5 (tw @u7 (tw @c1 (tw @c2 @aa.eq_1))))))))))) ?_;(repeat(refine Pn.mk ?_;intro N hN))))
    refine gD (vs:=[.own id 0 D.length]) (.inl rfl) (by simp only[eY,gO,Nat.sub_zero,go_sem, ↓reduceIte,Nat.reduceEqDiff,Nat.reduceAdd,Nat.reduceSub,Nat.reduceLeDiff,reduceCtorEq]) ⟨by(try dsimp only);omega,fun x hx hi=>by
      have h1:=eq_false hi
      have h2:=bI1.2 x hx hi
      simp only[go_sem, ↓reduceIte,Nat.reduceEqDiff,Nat.reduceAdd,Nat.reduceSub,Nat.reduceLeDiff,reduceCtorEq,h1,h2],List.replicate (L.length-D.length) ⟨0,0⟩,rfl,?_⟩
    simp only[go_sem, ↓reduceIte,Nat.reduceEqDiff,Nat.reduceAdd,Nat.reduceSub,Nat.reduceLeDiff,reduceCtorEq,bg0,c1,c2]
    simp[aa]
 ·have QH:1+k=L.length:=by omega
  have hd:dd L L.length=L:=by rw[<-QH,nf,QH,List.take_length]
  (try((repeat(revert hN;revert N;apply Pn.out));refine wk (tw @a3 (tw @ag0 (tw @a0 @hk))) ?_;(repeat(refine Pn.mk ?_;intro N hN))))
  exact gD (vs:=[.own id 0 L.length]) (.inl rfl) (sd (tw @a3 (tw @ag0 @a0))) ⟨by(try dsimp only);omega,fun x hx hi=>aI1.2 x hx hi,[],by rw[hd];rfl,by simp only[hd,List.append_nil];exact ag0⟩
end Go.Proofs.YtgoelphibofcmaaGreat.V

namespace Go.Proofs.YtgoelphibofcmaaGreat.V
open Go.RowKit Go.Shelf Go.Lib Go.Sort
instance:Inhabited ai:=⟨⟨0,0⟩⟩
variable {P:Program} {w:World} {D:Nat->Prop} {ι:Names}
theorem H7 {vs:Array Value} (h:fa P w D ι [] vs):vs= #[]:=Array.eq_empty_of_size_eq_zero h.1
theorem xK {a:AV} {r:List AV} {vs:Array Value} (h:fa P w D ι (a::r) vs):∃u us,vs=(u::us).toArray/\cq P w D ι a u/\fa P w D ι r us.toArray:=by
 obtain⟨h1,h2⟩:=h
 obtain⟨l⟩:=vs
 cases l with
 |nil=>simp at h1
 |cons u us=>
  obtain⟨u',hu,hr⟩:=h2 0 a rfl
  simp at hu;subst hu
  exact⟨u,us,rfl,hr,by simpa using h1,fun j b hj=>by
   obtain⟨v,hv,lg⟩:=h2 (j+1) b (by simpa using hj)
   exact⟨v,by simpa using hv,lg⟩⟩
def KW:Prop:=∀(wY off cap:Nat) (d:Array ai) (w:World),HoldsK fw 2 w wY off d->wY<w.heap.size->d.size<4611686018427387904->
 Calls Tryz.prog 175 #[.slice (some ⟨wY,off,none⟩) d.size cap,.func (.func 130) #[] #[]] w fun e w'=>e=.returned (.tuple #[])/\∃d' n os,PermIn 0 d.size d d'/\SortedIn (ltOf oR) 0 d.size d'/\w'=sortWorldK fw 2 w wY off n d' os
def KX:Prop:=∀(p:Option Addr) (cap:Nat) (fv:Value) (w:World),Calls Tryz.prog 175 #[.slice p 0 cap,fv] w fun e w'=>e=.returned (.tuple #[])/\w'=w
theorem JC (p:ai) (j:Nat) (a:AV) (h:(aa p)[j]? =some a) (P:Program) (w:World) (D:Nat->Prop) (ι:Names):cq P w D ι a (fw p)[j]! :=by
 match j,h with
 |0,h=>simp[aa]at h;subst h;exact .eD _ _ (.int _ _)
 |1,h=>simp[aa]at h;subst h;exact .eD _ _ (.int _ _)
 |j+2,h=>simp[aa]at h
theorem FW (hC:KW) (hN:KX) (ps:List ai) (hlen:ps.length<=1048576) (σ:ar) (id:Id) (hg:σ.get id=some ⟨true,2,ps.map aa⟩):
  Call Tryz.prog 175 [.own id 0 ps.length,.fn 130 []] σ fun r σ'=>σ'.next=σ.next/\(∀x,x≠id->σ'.get x=σ.get x)/\∃qs,σ'.get id=some ⟨true,2,qs.map aa⟩/\qs.length=ps.length/\(∀x,x∈qs↔x∈ps)/\∀i j:Nat,i<j->j<qs.length->kg (fj qs j) (fj qs i)=false:=by
 refine iG fun hs D ι w vs S U A=>?_
 obtain⟨u1,us1,rfl,h1,h2⟩:=xK A
 obtain⟨u2,us2,h3,h4,h5⟩:=xK h2
 simp at h3;subst h3
 have:=H7 h5
 simp at this;subst this
 obtain⟨o,cap,B,rfl,hB,He,ho,Ao,hmax,hk⟩:=iF h1
 obtain⟨SQ,gf,rfl,_,hz,_,_⟩:=y6 h4
 have hz':SQ= #[]:=Array.eq_empty_of_size_eq_zero (by simpa using hz)
 subst hz'
 by_cases h0:ps=[]
 ·subst h0
  refine(hN _ _ _ w).mono ?_
  rintro e w' ⟨rfl,rfl⟩
  exact⟨.gN [],σ.get,σ.next,D,ι,_,rfl,⟨rfl,fun _ _=>rfl,[],hg,rfl,fun x=>Iff.rfl,fun i j _ hj=>by simp at hj⟩,Step.refl _ _ _ _,S,U,Nat.le_refl _,.gN [] #[] (fun _=>Go.undef) rfl (fun j hj=>by simp at hj) (fun j a h=>by simp at h)⟩
 have kW:0<ps.length:=List.length_pos_iff.2 h0
 obtain⟨B',dx,R,jV,oy⟩:=S.row id _ hg
 rw[hB]at dx;injection dx with dx;subst dx
 replace R:=R.row hk
 have e5:B.sz=2:=R.sz
 have BC:o=0:=by rcases ho with h|h<;>omega
 subst BC
 obtain⟨cur,T,hblk,cR,vW⟩:=R.cur
 have Ap:ps.length*2<=B.C:=by simpa using R.fits
 have hH:HoldsK fw 2 w B.b 0 ps.toArray:=by
  intro t ht
  rw[size_flatK]at ht
  have ht2:t<ps.length*2:=by simpa using ht
  have hi:t / 2<ps.length:=by omega
  have BA:w.frozen? ⟨B.b,0+t,none⟩=false:=by
   simp only[World.frozen?,hblk];simp
  refine⟨?_,BA⟩
  rw[get_flatK _ _ _ _ ht]
  have hd:(ps.toArray)[t / 2]! =ps[t / 2]:=by simp[getElem!_pos,hi]
  rw[hd]
  have hj:t % 2=0∨t % 2=1:=by omega
  have ht3:0+t=(t / 2)*2+t % 2:=by omega
  rw[ht3]
  rcases hj with hj|hj
  ·obtain⟨v,hv,hr⟩:=R.at_ (t / 2) 0 (aa ps[t / 2]) _ (by simp[hi]) rfl
   rw[cV hr]at hv
   rw[hj];exact hv
  ·obtain⟨v,hv,hr⟩:=R.at_ (t / 2) 1 (aa ps[t / 2]) _ (by simp[hi]) rfl
   rw[cV hr]at hv
   rw[hj];exact hv
 have ml:B.b<w.heap.size:=(Array.getElem?_eq_some_iff.1 hblk).1
 have OY:=hC B.b 0 cap ps.toArray w hH ml (by simp;omega)
 rw[show ps.toArray.size=ps.length from by simp]at OY
 refine OY.mono ?_
 rintro e w' ⟨rfl,d',m,os,⟨D6,_,DZ⟩,hsort,rfl⟩
 have O4:d'.size=ps.length:=by rw[D6];simp
 have Sw:d'.toList.length=ps.length:=by simpa using O4
 have hP:d'.toList.Perm ps:=by
  have e1:d'.extract 0 ps.length=d':=by rw[<-O4];exact Array.extract_size
  have e2:ps.toArray.extract 0 ps.length=ps.toArray:=by
   have:ps.length=ps.toArray.size:=by simp
   rw[this];exact Array.extract_size
  rw[e1,e2]at DZ
  simpa using DZ
 have hF:∀t,t<ps.length*2->(flatK fw 2 d')[t]! =(fw d'[t / 2]!)[t % 2]! :=fun t ht=>get_flatK _ _ _ _ (by rw[O4];exact ht)
 have hFs:(flatK fw 2 d').size=ps.length*2:=by rw[size_flatK,O4]
 have hw:sortWorldK fw 2 w B.b 0 m d' os=Go.Sort.grow (Go.Sort.putRow (fun v:Value=>v) (Go.Sort.ahead w m) B.b 0 (flatK fw 2 d')) os:=rfl
 rw[hw]
 clear hw hH
 generalize flatK fw 2 d'=Fl at hF hFs ⊢
 have uD:=S.put (r':=⟨true,2,d'.toList.map aa⟩) (cur':=Go.Sort.putCells (fun v:Value=>v) 0 Fl cur) hg rfl hB hblk (by simp[Go.Sort.putCells]) rfl rfl (by simpa[O4]using Ap) (fun cs cR=>by
   obtain⟨x,_,rfl⟩:=List.mem_map.1 cR;rfl) (fun cs cR a ha=>by
   obtain⟨x,_,rfl⟩:=List.mem_map.1 cR
   simp[aa]at ha;rcases ha with rfl|rfl<;>rfl) (fun i j cs a hi hj=>by
   have xg:i<d'.toList.length:=by
    have:=(List.getElem?_eq_some_iff.1 hi).1
    simpa using this
   have hj2:j<2:=by
    have:=List.mem_of_getElem? hi
    obtain⟨x,_,rfl⟩:=List.mem_map.1 this
    exact(List.getElem?_eq_some_iff.1 hj).1
   have RT:cs=aa d'[i]! :=by
    rw[List.getElem?_map,List.getElem?_eq_getElem xg]at hi
    simp at hi
    rw[<-hi,getElem!_pos d' i (by simpa using xg)]
   subst RT
   have Jg:i*2+j<ps.length*2:=by omega
   refine⟨(fw d'[i]!)[j]!,?_,JC _ _ _ hj _ _ _ _⟩
   have oV:i*2+j<cur.size:=by rw[cR];omega
   show(Go.Sort.putCells (fun v:Value=>v) 0 Fl cur)[i*2+j]? = _
   simp only[Go.Sort.putCells,Array.getElem?_mapIdx,Array.getElem?_eq_getElem oV,Option.map_some]
   rw[if_pos ⟨Nat.zero_le _,by rw[hFs];omega⟩,Nat.sub_zero,hF _ Jg,show(i*2+j) / 2=i from by omega,show(i*2+j) % 2=j from by omega])
 obtain⟨S1,rf⟩:=uD
 have Pu:(Go.Sort.putRow (fun v:Value=>v) (Go.Sort.ahead w m) B.b 0 Fl).heap.size=w.heap.size:=by simp
 have K9:∀k,k<(w.setRow B.b (Go.Sort.putCells (fun v:Value=>v) 0 Fl cur)).heap.size->(Go.Sort.grow (Go.Sort.putRow (fun v:Value=>v) (Go.Sort.ahead w m) B.b 0 Fl) os).heap[k]? =(w.setRow B.b (Go.Sort.putCells (fun v:Value=>v) 0 Fl cur)).heap[k]? :=fun k hk=>by
  have E8:k<w.heap.size:=by simpa using hk
  rw[heap_grow_old _ _ (by rw[Pu];exact E8)]
  simp only[Go.Sort.putRow,Go.Sort.mapBlock,heap_ahead,Array.getElem?_modify]
  by_cases Sa:B.b=k
  ·subst Sa
   rw[setRow_heap w B.b cur _ T _ hblk,if_pos rfl,hblk];rfl
  ·rw[if_neg Sa,setRow_other w B.b k _ (fun h=>Sa h.symm)]
 have kf:(w.setRow B.b (Go.Sort.putCells (fun v:Value=>v) 0 Fl cur)).heap.size<=(Go.Sort.grow (Go.Sort.putRow (fun v:Value=>v) (Go.Sort.ahead w m) B.b 0 Fl) os).heap.size:=by
  rw[size_grow,Pu];simp
 have S2:=S1.stay (D':=D) (ι':=ι) K9 kf (fun _ h=>h) (fun b hb=>Nat.lt_of_lt_of_le (S1.dead b hb) kf) (fun _ h=>.inl h) (fun _ _ h=>h)
 have LH:=rf.trans (Step.stay (D':=D) (ι':=ι) S1 K9 kf (by simp[Go.Sort.grow,Go.Sort.putRow,Go.Sort.mapBlock,Go.Sort.ahead]) (by simp[Go.Sort.grow,Go.Sort.putRow,Go.Sort.mapBlock,Go.Sort.ahead]) (by simp[Go.Sort.grow,Go.Sort.putRow,Go.Sort.mapBlock,Go.Sort.ahead]) (fun _ h=>h) (fun _ h=>.inl h) (fun _ _ h=>h))
 refine⟨.gN [],bB σ.get id ⟨true,2,d'.toList.map aa⟩,σ.next,D,ι,_,rfl,⟨rfl,fun x hx=>by simp[bB,hx],d'.toList,by simp[bB],Sw,fun x=>hP.mem_iff,fun i j DY hj=>?_⟩,LH,S2,U,Nat.le_refl _,.gN [] #[] (fun _=>Go.undef) rfl (fun j hj=>by simp at hj) (fun j a h=>by simp at h)⟩
 have h:=hsort i j (Nat.zero_le _) DY (by omega)
 rw[ltOf,me]at h
 have e1:d'[j]! =fj d'.toList j:=by rw[gJ hj,getElem!_pos d' j (by simpa using hj)];rfl
 have hi:i<d'.toList.length:=by omega
 have e2:d'[i]! =fj d'.toList i:=by rw[gJ hi,getElem!_pos d' i (by simpa using hi)];rfl
 rw[<-e1,<-e2];exact h
end Go.Proofs.YtgoelphibofcmaaGreat.V

namespace Go.Proofs
open Go.Shelf
def Tryz.Da:Go.Shelf.Ren:=⟨fun|6=>175|15=>207|14=>206|28=>233|29=>234|20=>225|21=>226|22=>227|23=>228|24=>229|25=>230|26=>231|27=>232|46=>247|47=>248|48=>249|49=>250|50=>251|57=>267|n=>n,fun|22=>100|24=>50|25=>168|3=>3|39=>216|0=>0|53=>268|55=>270|4=>4|46=>262|45=>261|50=>177|5=>5|9=>9|66=>287|70=>291|76=>312|77=>313|n=>n,fun|n=>n⟩
theorem Tryz.Im:Go.Proofs.SlLaysF0.n6 Tryz.prog Tryz.Da:={
 mixed:=by kernel_rfl
 f6:=⟨Tryz.f175.name,by decide,Tryz.func175.trans (congrArg some (by kernel_rfl))⟩
 f14:=⟨Tryz.f206.name,by decide,Tryz.func206.trans (congrArg some (by kernel_rfl))⟩
 f15:=Tryz.func207.trans (congrArg some (by kernel_rfl))
 f20:=⟨Tryz.f225.name,by decide,Tryz.func225.trans (congrArg some (by kernel_rfl))⟩
 f21:=⟨Tryz.f226.name,by decide,Tryz.func226.trans (congrArg some (by kernel_rfl))⟩
 f22:=⟨Tryz.f227.name,by decide,Tryz.func227.trans (congrArg some (by kernel_rfl))⟩
 f23:=⟨Tryz.f228.name,by decide,Tryz.func228.trans (congrArg some (by kernel_rfl))⟩
 f24:=⟨Tryz.f229.name,by decide,Tryz.func229.trans (congrArg some (by kernel_rfl))⟩
 f25:=⟨Tryz.f230.name,by decide,Tryz.func230.trans (congrArg some (by kernel_rfl))⟩
 f26:=⟨Tryz.f231.name,by decide,Tryz.func231.trans (congrArg some (by kernel_rfl))⟩
 f27:=⟨Tryz.f232.name,by decide,Tryz.func232.trans (congrArg some (by kernel_rfl))⟩
 f28:=Tryz.func233.trans (congrArg some (by kernel_rfl))
 f29:=Tryz.func234.trans (congrArg some (by kernel_rfl))
 f46:=⟨Tryz.f247.name,by decide,Tryz.func247.trans (congrArg some (by kernel_rfl))⟩
 f47:=Tryz.func248.trans (congrArg some (by kernel_rfl))
 f48:=Tryz.func249.trans (congrArg some (by kernel_rfl))
 f49:=⟨Tryz.f250.name,by decide,Tryz.func250.trans (congrArg some (by kernel_rfl))⟩
 f50:=⟨Tryz.f251.name,by decide,Tryz.func251.trans (congrArg some (by kernel_rfl))⟩
 f57:=⟨Tryz.f267.name,by decide,Tryz.func267.trans (congrArg some (by kernel_rfl))⟩
 t0:=Tryz.underlying0
 a0:=Tryz.isAgg0
 z0:=Tryz.sizeOf0
 v0:=Tryz.zeroValue0
 t3:=Tryz.underlying3
 a3:=Tryz.isAgg3
 z3:=Tryz.sizeOf3
 v3:=Tryz.zeroValue3
 t4:=Tryz.underlying4
 a4:=Tryz.isAgg4
 z4:=Tryz.sizeOf4
 v4:=Tryz.zeroValue4
 t5:=Tryz.underlying5
 a5:=Tryz.isAgg5
 z5:=Tryz.sizeOf5
 v5:=Tryz.zeroValue5
 t9:=Tryz.underlying9
 a9:=Tryz.isAgg9
 z9:=Tryz.sizeOf9
 v9:=Tryz.zeroValue9
 t22:=Tryz.underlying100
 a22:=Tryz.isAgg100
 z22:=Tryz.sizeOf100
 v22:=Tryz.zeroValue100
 t25:=Tryz.underlying168
 a25:=Tryz.isAgg168
 z25:=Tryz.sizeOf168
 v25:=Tryz.zeroValue168
 t39:=Tryz.underlying216
 a39:=Tryz.isAgg216
 z39:=Tryz.sizeOf216
 v39:=Tryz.zeroValue216
 t45:=Tryz.underlying261
 a45:=Tryz.isAgg261
 z45:=Tryz.sizeOf261
 v45:=Tryz.zeroValue261
 t46:=Tryz.underlying262
 a46:=Tryz.isAgg262
 z46:=Tryz.sizeOf262
 v46:=Tryz.zeroValue262
 t50:=Tryz.underlying177
 a50:=Tryz.isAgg177
 z50:=Tryz.sizeOf177
 v50:=Tryz.zeroValue177
 t53:=Tryz.underlying268
 a53:=Tryz.isAgg268
 z53:=Tryz.sizeOf268
 v53:=Tryz.zeroValue268
 t55:=Tryz.underlying270
 a55:=Tryz.isAgg270
 z55:=Tryz.sizeOf270
 v55:=Tryz.zeroValue270
 t66:=Tryz.underlying287
 a66:=Tryz.isAgg287
 z66:=Tryz.sizeOf287
 v66:=Tryz.zeroValue287
 t70:=Tryz.underlying291
 a70:=Tryz.isAgg291
 z70:=Tryz.sizeOf291
 v70:=Tryz.zeroValue291
 t76:=Tryz.underlying312
 a76:=Tryz.isAgg312
 z76:=Tryz.sizeOf312
 v76:=Tryz.zeroValue312
 t77:=Tryz.underlying313
 a77:=Tryz.isAgg313
 z77:=Tryz.sizeOf313
 v77:=Tryz.zeroValue313}
end Go.Proofs

namespace Go.Proofs.YtgoelphibofcmaaGreat.V
open Go.RowKit Go.Shelf Go.Lib Go.Sort
theorem zY (w:World) (a b:Int):Calls Tryz.prog 178 #[.int .i64 a,.int .i64 b] w fun e w'=>e=.returned (.int .i64 (qn a b))/\w=w':=by
 go_enter Tryz.func178,Tryz.ntmps178
 go_wp2_with go_in
 all_goals
  go_ret
  exact⟨El (by unfold qn;split<;>(try split)<;>omega),rfl⟩
theorem Ko (w:World) (a b:Int) (g:Nat) (ha:w.cell? ⟨g,0,none⟩=some (.int .i64 a)) (hb:w.cell? ⟨g,1,none⟩=some (.int .i64 b)):Calls Tryz.prog 177 #[.slice (some ⟨g,0,none⟩) 2 2] w fun e w'=>e=.returned (.int .i64 (Kp a b))/\w=w':=by
 go_enter Tryz.func177,Tryz.ntmps177
 go_wp2_with fail
 go_loop [8] (fun i=>∃k:Nat,k<=2/\i=.int .i64 k/\Hid ((1<=k->a=0)/\(2<=k->b=0))) (fun i=>2-(intOf i).toNat)
 case atStart=>exact⟨0,by omega,rfl,Lib.hid ⟨fun h=>by omega,fun h=>by omega⟩⟩
 case round=>
  obtain⟨k,hk,rfl,hz⟩:=hrel
  have h3:k=0∨k=1∨k=2:=by omega
  rcases h3 with rfl|rfl|rfl
  ·go_wp2_with fail
   ·rename_i h
    go_ret
    exact⟨El (by unfold Kp;simp_all),rfl⟩
   ·rename_i h
    go_round
    case rel=>exact⟨1,by omega,rfl,Lib.hid ⟨fun _=>by simpa using h,fun h=>by omega⟩⟩
    case measure=>simp[intOf]
  ·have h0:=hz.out.1 (by omega)
   replace h0:=Lib.hid h0
   go_wp2_with fail
   ·go_ret
    exact⟨El (by unfold Kp;rw[if_pos h0.out]),rfl⟩
   ·rename_i h
    go_round
    case rel=>exact⟨2,by omega,rfl,Lib.hid ⟨fun _=>h0.out,fun _=>by simpa using h⟩⟩
    case measure=>simp[intOf]
  ·have h0:=Lib.hid (hz.out.1 (by omega))
   have h1:=Lib.hid (hz.out.2 (by omega))
   go_wp2_with fail
   go_ret
   exact⟨El (by unfold Kp;rw[if_pos h0.out,h1.out]),rfl⟩
def Grown (w w':World):Prop:=∃(q:Nat) (os:Array Obj),w'=Go.Sort.grow (w.drewN q) os
theorem Grown.refl (w:World):Grown w w:=⟨0, #[],by rw[grow_empty];rfl⟩
theorem Grown.alloc {w w':World} (h:Grown w w') (o:Obj):Grown w (w'.alloc o):=by
 obtain⟨q,os,rfl⟩:=h
 exact⟨q,os++ #[o],by rw[alloc_eq_grow,grow_grow]⟩
theorem Grown.drew {w w':World} (h:Grown w w'):Grown w w'.drew:=by
 obtain⟨q,os,rfl⟩:=h
 exact⟨q+1,os,by rw[drew_grow];rfl⟩
theorem Grown.dN {w w':World} (h:Grown w w') (n:Nat):Grown w (w'.drewN n):=by
 obtain⟨q,os,rfl⟩:=h
 exact⟨q+n,os,by
  show Go.Sort.grow ((w.drewN q).drewN n) os=Go.Sort.grow (w.drewN (q+n)) os
  simp[World.drewN,Nat.add_assoc]⟩
theorem sW (w:World) (a b:ai):Calls Tryz.prog 130 #[.agg #[.int .i64 a.eB,.int .i64 a.ek],.agg #[.int .i64 b.eB,.int .i64 b.ek]] w fun e w'=>e=.returned (.int .i64 (oR a b))/\Grown w w':=by
 go_enter Tryz.func130,Tryz.ntmps130
 go_wp2_with fail
 go_region_held3 (fun w'=>w'.cell? ⟨w.heap.size,0,none⟩=some (.int .i64 a.eB)/\w'.cell? ⟨w.heap.size,1,none⟩=some (.int .i64 a.ek)/\
   w'.cell? ⟨w.heap.size+1,0,none⟩=some (.int .i64 b.eB)/\w'.cell? ⟨w.heap.size+1,1,none⟩=some (.int .i64 b.ek))
  (first|go_keep)
  (first|(go_at_call 178;refine(zY _ _ _).mono ?_;rintro e w' ⟨rfl,rfl⟩)|(go_at_call 177;refine(Ko _ (qn a.ek b.ek) (qn a.eB b.eB) _ (by simp[go_sem]) (by simp[go_sem])).mono ?_;rintro e w' ⟨rfl,rfl⟩))
 go_wp2_with fail
 go_ret
 refine⟨rfl,?_⟩
 repeat(first|(with_reducible exact Grown.refl _)|(refine Grown.alloc ?_ _)|(refine Grown.drew ?_)|(refine Grown.dN ?_ _))
theorem SP:SWO (ltOf oR) where
 irrefl x:=by rw[ltOf,me];exact mo
 trans x y z h1 h2:=by rw[ltOf,me]at *;exact im h1 h2
 ntrans x y z h1 h2:=by rw[ltOf,me]at *;rw[oB]at *;omega
theorem PW:KW:=fun wY off cap d w hH hblk e5=>by
 have eg:∀args w,(callFunc 130 args).run Tryz.prog w=.ok (.enter 130 args) w:=enters_of Tryz.func130 (by kernel_rfl) rfl
 have h:=AnyQ.slices_SortFunc Tryz.Im 2 Tryz.isAgg50 Tryz.sizeOf50 fw (fun _=>rfl) (fun x v hv=>by simp[fw]at hv;rcases hv with rfl|rfl<;>rfl) oR SP 130 #[] wY off cap d w eg (fun m os dk _ x y=>(sW _ x y).mono fun _ _ ⟨he,q,os',hw⟩=>⟨he,q,os',hw⟩) hH hblk e5
 exact h
theorem PX:KX:=fun p cap fv w=>AnyF.slices_SortFunc_none Tryz.Im p cap fv w
end Go.Proofs.YtgoelphibofcmaaGreat.V

namespace Go.Proofs.YtgoelphibofcmaaGreat.V
open Go.RowKit
attribute [local irreducible] dI wpOps ib Call
attribute [local go_sem] aJ gu eW gR gQ cE upd cw K.av cY AV.cells AV.cell rowOf rowsOf part ld rowAt bB cr dY eG jq bP dq eT gP fx dE eK dn dm eu ew bU bp db bR de dc eI eL eJ da cm dp eH bQ aO di cI jo bE cU bV aY du aV ea AV.undef bG bJ eA eE ei ep cJ eR eV cG eO eM dh dj List.getD_cons_zero List.getD_cons_succ List.getD_nil List.all_cons List.all_nil Bool.and_true Bool.true_and Bool.and_self Bool.not_true Bool.not_false Option.map_some Option.map_none Option.bind_some Option.bind_none List.length_cons List.length_nil List.take_succ_cons List.take_zero List.take_nil List.drop_succ_cons List.drop_zero List.drop_nil List.head?_cons List.map_cons List.map_nil List.getElem?_cons_zero List.getElem?_cons_succ List.cons_append List.nil_append List.append_nil List.length_map List.set_cons_zero List.set_cons_succ Nat.reduceMul eq_self Int.toNat_natCast Int.natCast_nonneg and_self true_and and_true decide_true decide_false Bool.false_eq_true Nat.zero_add Nat.add_zero List.contains_cons List.contains_nil Bool.or_false Bool.false_or beq_self_eq_true Nat.reduceBEq ne_eq not_true_eq_false not_false_eq_true Id.mk.injEq false_and and_false Nat.reduceLT Int.reduceLE Int.reduceLT Int.reduceToNat Int.reduceNeg Int.reduceAdd Nat.le_refl List.length_append beq_true beq_false Bool.not_eq_eq_eq_not or_false false_or eh ao aq aK br bI cC bc bz aQ bt cX cj
theorem wK (ps qs:List ai) (hlen:ps.length<=1000000) (h0:ps≠[]) (hR:kR qs) (hm:∀x,x∈qs↔x∈ps) (σ:ar) (id:Id) (hv:id.aW<σ.next) (hg:σ.get id=some ⟨true,2,ps.map aa⟩):
  Call Tryz.prog 172 [.own id 0 ps.length] σ fun a σ'=>∃(o:Id) (X:List ai),a=.own o 0 qs.length/\σ'.get o=some ⟨true,2,(qs++X).map aa⟩/\σ.next<=o.aW/\o.aW<σ'.next/\∀x:Id,x.aW<σ.next->σ'.get x=σ.get x:=by
 refine gT ej rfl fun hl=>?_
 clear hl
 have v1:=dv hv
 (try((repeat(revert hN;revert N;apply Pn.out));refine wk (tw @hg @v1) ?_;(repeat(refine Pn.mk ?_;intro N hN))))
 refine .inr (aU _ _ _ _ _ (fun r σ1 hq=>?_) (B3 ps h0 (by omega) ⟨σ.get,_⟩ id (by(try dsimp only);omega) hg))
 obtain⟨g1,x1⟩:=σ1
 obtain⟨o,rfl,q1,q2,q3,q4⟩:=hq
 (try dsimp only at q1 q2 q3 q4)
 refine hN _ _ ?_
 clear hN N
 (try((repeat(revert hN;revert N;apply Pn.out));refine wk @Nat.zero_add ?_;(repeat(refine Pn.mk ?_;intro N hN))))
 refine .inr (aU _ _ _ _ _ (fun r σ2 hq=>?_) (FW PW PX ps (by omega) ⟨g1,_⟩ o q1))
 obtain⟨g2,x2⟩:=σ2
 obtain⟨u1,u2,ss,u3,u4,u5,u6⟩:=hq
 (try dsimp only at u1 u2 u3)
 refine hN _ _ ?_
 clear hN N
 (try((repeat(revert hN;revert N;apply Pn.out));refine wk @Nat.zero_add ?_;(repeat(refine Pn.mk ?_;intro N hN))))
 rw[<-u4]
 refine .inr (aU _ _ _ _ _ (fun r σ3 hq=>?_) (EM ss (by omega) ⟨g2,_⟩ o u3))
 obtain⟨g3,x3⟩:=σ3
 obtain⟨y1,y2,X,rfl,y3⟩:=hq
 (try dsimp only at y1 y2 y3)
 have hD:dd ss ss.length=qs:=y8 (GW u6 ss.length (Nat.le_refl _)) hR fun x=>by
  rw[ya,hm,<-u5]
  constructor
  ·rintro⟨i,hi,rfl⟩
   rw[gJ hi];exact List.getElem_mem hi
  ·intro hx
   obtain⟨i,hi,rfl⟩:=List.getElem_of_mem hx
   exact⟨i,hi,gJ hi⟩
 rw[hD]at y3 ⊢
 refine hN _ _ ?_
 clear hN N
 (try((repeat(revert hN;revert N;apply Pn.out));refine wk @Nat.zero_add ?_;(repeat(refine Pn.mk ?_;intro N hN))))
 exact gD (.inl rfl) (vs:=[.own o 0 qs.length]) (sd @Nat.zero_add) ⟨o,X,rfl,y3,by omega,by(try dsimp only);omega,fun x hx=>by
  have h1:x≠o:=fun e=>by rw[e]at hx;omega
  have h2:=y2 x (by(try dsimp only);omega) h1
  have h3:=u2 x h1
  have h4:=q4 x (by omega)
  exact h2.trans (h3.trans h4)⟩
end Go.Proofs.YtgoelphibofcmaaGreat.V
