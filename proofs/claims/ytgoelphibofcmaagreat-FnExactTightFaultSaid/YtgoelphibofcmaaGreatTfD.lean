/- The reference's networks: one is made. -/
import Derived.Test.YtgoelphibofcmaaGreatTfC
import Derived.Test.YtgoelphibofcmaaGreatTfB
import Derived.Shelf.SlSortCmp.WholeK
import Derived.Shelf.SlSortCmp.NoneTotal
import Derived.Ground.SlsfProg
import Derived.Test.YtgoelphibofcmaaGreatProg
set_option linter.unusedVariables false
set_option linter.unusedSimpArgs false
set_option maxRecDepth 100000
set_option maxHeartbeats 16000000
namespace Go.Proofs.YtgoelphibofcmaaGreat.V
open Go.RowKit
attribute [local irreducible] dD wpOps gI Call
attribute [local go_sem] aK fW eU gE gy cE upd ck K.av cN AV.cells AV.cell rowOf rowsOf part ld rowAt bB bY dO ev iI bK db eI gr e8 dx eB cZ cY ea ec bQ aY cQ bP cU cR ez eC eA cP bV da ew bL aL cW cF iH bz cK bR aU dh aT dP AV.undef bF bG eh eu dX dY cI eH eK cD eE eD cV cX List.getD_cons_zero List.getD_cons_succ List.getD_nil List.all_cons List.all_nil Bool.and_true Bool.true_and Bool.and_self Bool.not_true Bool.not_false Option.map_some Option.map_none Option.bind_some Option.bind_none List.length_cons List.length_nil List.take_succ_cons List.take_zero List.take_nil List.drop_succ_cons List.drop_zero List.drop_nil List.head?_cons List.map_cons List.map_nil List.getElem?_cons_zero List.getElem?_cons_succ List.cons_append List.nil_append List.append_nil List.length_map List.set_cons_zero List.set_cons_succ Nat.reduceMul eq_self Int.toNat_natCast Int.natCast_nonneg and_self true_and and_true decide_true decide_false Bool.false_eq_true Nat.zero_add Nat.add_zero List.contains_cons List.contains_nil Bool.or_false Bool.false_or beq_self_eq_true Nat.reduceBEq ne_eq not_true_eq_false not_false_eq_true Id.mk.injEq false_and and_false Nat.reduceLT Int.reduceLE Int.reduceLT Int.reduceToNat Int.reduceNeg Int.reduceAdd Nat.le_refl List.length_append beq_true beq_false Bool.not_eq_eq_eq_not or_false false_or dQ aj aq aH bd bE cm aW bc aN bf cL bU
theorem Ib (cnt:Nat) (hn:cnt<=1048576) (bs:List PB) (ok:mN cnt bs) (mo:bs.length<=1048576) (σ:ar):
  Call Tryz.prog 237 [.int .i64 cnt,.sl (bs.map ay)] σ fun r σ'=>∃X A F,r=.ptr X 0 0/\σ.next<=X.aZ/\nG cnt bs (fun _=>0) X A F σ'.get σ'.next:=by
 refine GQ Mp rfl fun hl=>?_
 try simp only[q]
 clear hl
 have jv:(0:Int)<=(cnt:Int):=by omega
 have pr:(cnt:Int)<=((16777216:Nat):Int):=by omega
 have Pq:(0:Int)<=(bs.length:Int):=by omega
 have Lx:(bs.length:Int)<=((16777216:Nat):Int):=by omega
 have hz:List.replicate bs.length [AV.int .i64 0]=dG (fun _=>0) bs.length:=by
  refine List.ext_getElem? fun i=>?_
  by_cases h:i<bs.length
  ·rw[dB h,List.getElem?_replicate,if_pos h];rfl
  ·rw[List.getElem?_eq_none (by simp;omega),List.getElem?_eq_none (by rw[dt];omega)]
 (try((repeat(revert hN;revert N;apply Pn.out));refine wk (tw @jv (tw @pr (tw @Pq (tw @Lx (tw @Int.le_refl @hz))))) ?_;(repeat(refine Pn.mk ?_;intro N hN))))
 obtain⟨X,hX⟩:∃X:Id,X=⟨237001003,σ.next+1⟩:=⟨_,rfl⟩
 obtain⟨A,hA⟩:∃X:Id,X=⟨237002002,σ.next+1+1⟩:=⟨_,rfl⟩
 obtain⟨F,hF⟩:∃X:Id,X=⟨237003003,σ.next+1+1+1⟩:=⟨_,rfl⟩
 have hXA:X.aZ<A.aZ:=by rw[hX,hA];(try dsimp only);omega
 have hAF:A.aZ<F.aZ:=by rw[hA,hF];(try dsimp only);omega
 have hXs:σ.next<=X.aZ:=by rw[hX];(try dsimp only);omega
 refine aJ (fun n env st=>∃j:Nat,n=(bs.length)-j/\j<=(bs.length)/\env 6=.int .i64 (j:Int)/\env 5=(.ptr X 0 0)/\st.get X=some ⟨true,4,[aX cnt bs A F]⟩/\st.get F=some ⟨true,1,dG (fun _=>0) bs.length⟩/\(qj A F.aZ (k6 cnt bs j) st.get st.next/\F.aZ<st.next)) (bs.length) ⟨0,by omega,by omega,by(try simp only[go_sem, ↓reduceIte,Nat.reduceEqDiff,Nat.reduceAdd,Nat.reduceSub,Nat.reduceLeDiff,reduceCtorEq,hX,hF,hA,aX,hz]);try rfl,by(try simp only[go_sem, ↓reduceIte,Nat.reduceEqDiff,Nat.reduceAdd,Nat.reduceSub,Nat.reduceLeDiff,reduceCtorEq,hX,hF,hA,aX,hz]);try rfl,by(try simp only[go_sem, ↓reduceIte,Nat.reduceEqDiff,Nat.reduceAdd,Nat.reduceSub,Nat.reduceLeDiff,reduceCtorEq,hX,hF,hA,aX,hz]);try rfl,by(try simp only[go_sem, ↓reduceIte,Nat.reduceEqDiff,Nat.reduceAdd,Nat.reduceSub,Nat.reduceLeDiff,reduceCtorEq,hX,hF,hA,aX,hz]);try rfl,⟨⟨List.replicate cnt [.cj],[],by rw[hA];(simp only[go_sem, ↓reduceIte,Nat.reduceEqDiff,Nat.reduceAdd,Nat.reduceSub,Nat.reduceLeDiff,reduceCtorEq])<;>rfl,by rw[FE];exact x9 _ _,List.nodup_nil,fun i hi=>by cases hi⟩,by rw[hF];(try dsimp only);omega⟩⟩ ?_
 rintro n_a env_a st_a ⟨j,rfl,ale,a6,a5,ag0,ag1,nj⟩ dv
 have a0:=dv 0 (by kernel_rfl);have a1:=dv 1 (by kernel_rfl)
 simp only[go_sem, ↓reduceIte,Nat.reduceEqDiff,Nat.reduceAdd,Nat.reduceSub,Nat.reduceLeDiff,reduceCtorEq,hX,hF,hA,aX,hz]at a0 a1
 clear dv
 obtain⟨⟨rows,ids,ag,hR,oI,ny⟩,hFn⟩:=nj
 have x1:=dm hXA
 have x2:=dm hAF
 have x3:=dm (a:=X) (b:=F) (by omega)
 have vX:=dw (i:=X) (n:=st_a.next) (by omega)
 have vA:=dw (i:=A) (n:=st_a.next) (by omega)
 have vF:=dw (i:=F) (n:=st_a.next) (by omega)
 by_cases hj:(j:Int)<(bs.length:Int)
 ·have cw:∀{e:Env} {gg:Rows} {nx:Nat},(e 6=.int .i64 (IntKind.i64.wrap ((j:Int)+1)))->(e 5=(.ptr X 0 0))->(gg X=some ⟨true,4,[aX cnt bs A F]⟩)->(gg F=some ⟨true,1,dG (fun _=>0) bs.length⟩)->(qj A F.aZ (k6 cnt bs (j+1)) gg nx/\F.aZ<nx)->∃m0,m0<(bs.length)-j/\∃j:Nat,m0=(bs.length)-j/\j<=(bs.length)/\e 6=.int .i64 (j:Int)/\e 5=(.ptr X 0 0)/\gg X=some ⟨true,4,[aX cnt bs A F]⟩/\gg F=some ⟨true,1,dG (fun _=>0) bs.length⟩/\(qj A F.aZ (k6 cnt bs j) gg nx/\F.aZ<nx):=fun x1 x2 x3 x4 x5=>⟨_,by omega,j+1,rfl,by omega,(by rw[x1,ax (by omega)]),x2,x3,x4,x5⟩
  have nu:j<bs.length:=by omega
  have iC:=tz nu
  obtain⟨ha1,Pr,fZ⟩:=ok j nu
  have gn:((bH bs j).a:Int)<(cnt:Int):=by omega
  have fw:((bH bs j).b:Int)<(cnt:Int):=by omega
  have iU:=FD (m:=j) ha1 Pr fZ
  have e1:=qH bs j (bH bs j).a
  have e2:=qH bs j (bH bs j).b
  have PK:(wU cnt bs j)[(bH bs j).b]? =some (iL bs j (bH bs j).b):=A5 Pr fZ
  have PJ:(k6 cnt bs j)[(bH bs j).a]? =some (iL bs j (bH bs j).a):=by simp[k6,ha1]
  have R5:wU cnt bs j=(k6 cnt bs j).set (bH bs j).a (iL bs j (bH bs j).a++[j]):=rfl
  have Jt:(wU cnt bs j).length=cnt:=by rw[R5,List.length_set,jh]
  have iV:=hR.len
  rw[jh]at iV
  obtain⟨cs7,je,HI,HU⟩:=EB (A:=A) (K:=⟨237007022,st_a.next+1⟩) (nx:=st_a.next+1+1) (j:=j) hR oI ny (by omega) PJ (by(try dsimp only);omega) (by(try dsimp only);omega) hFn
  rw[<-R5]at HU
  obtain⟨c7,rfl⟩:∃c,cs7=[c]:=by
   rcases HI with⟨_,h⟩|⟨id,h,_⟩<;>exact⟨_,h⟩
  generalize iL bs j (bH bs j).a=La at *
  generalize iL bs j (bH bs j).b=Lb at *
  generalize bH bs j=b at *
  generalize wU cnt bs j=LA at *
  clear R5
  (try((repeat(revert hN;revert N;apply Pn.out));refine wk (tw @a6 (tw @a5 (tw @ag0 (tw @ag1 (tw @a0 (tw @a1 (tw @hj (tw @iC (tw @ay.eq_1 (tw @ag (tw @je (tw @gn (tw @fw (tw @iV (tw @x1 (tw @x2 (tw @x3 (tw @vX (tw @vA (tw @vF @aX.eq_1)))))))))))))))))))) ?_;(repeat(refine Pn.mk ?_;intro N hN))))
  refine DQ (fun e s=>e 0=.int .i64 cnt/\e 1=.sl (bs.map ay)/\e 5=.ptr X 0 0/\e 6=.int .i64 j/\s.get X=some ⟨true,4,[aX cnt bs A F]⟩/\s.get F=some ⟨true,1,dG (fun _=>0) bs.length⟩/\qj A F.aZ LA s.get s.next/\F.aZ<s.next) ?_ ?_
  ·rintro e1 s1 ⟨m0,m1,m5,m6,mX,mF,⟨rows1,ids1,mg,mR,mnd,mver⟩,mn⟩
   refine hN _ _ ?_
   clear hN N
   have iW:=mR.len
   rw[Jt]at iW
   have wX:=dw (i:=X) (n:=s1.next) (by omega)
   have wA:=dw (i:=A) (n:=s1.next) (by omega)
   have wF:=dw (i:=F) (n:=s1.next) (by omega)
   obtain⟨cs8,jf,HJ,HV⟩:=EB (A:=A) (K:=⟨237008022,s1.next⟩) (nx:=s1.next+1) (j:=j) mR mnd mver (by omega) PK (by(try dsimp only);omega) (by(try dsimp only);omega) mn
   rw[iU]at HV
   obtain⟨c8,rfl⟩:∃c,cs8=[c]:=by
    rcases HJ with⟨_,h⟩|⟨id,h,_⟩<;>exact⟨_,h⟩
   (try((repeat(revert hN;revert N;apply Pn.out));refine wk (tw @m0 (tw @m1 (tw @m5 (tw @m6 (tw @mX (tw @mF (tw @hj (tw @iC (tw @ay.eq_1 (tw @mg (tw @jf (tw @gn (tw @fw (tw @iW (tw @x1 (tw @x2 (tw @x3 (tw @wX (tw @wA (tw @wF @aX.eq_1)))))))))))))))))))) ?_;(repeat(refine Pn.mk ?_;intro N hN))))
   refine K8 (fun e s=>e 0=.int .i64 cnt/\e 1=.sl (bs.map ay)/\e 5=.ptr X 0 0/\e 6=.int .i64 j/\s.get X=some ⟨true,4,[aX cnt bs A F]⟩/\s.get F=some ⟨true,1,dG (fun _=>0) bs.length⟩/\qj A F.aZ (k6 cnt bs (j+1)) s.get s.next/\F.aZ<s.next) ?_ ?_
   ·rintro e2 s2 ⟨p0,p1,p5,p6,pX,pF,pL,pn⟩
    simp only[dh,aT]
    refine hN _ _ ?_
    clear hN N
    (try((repeat(revert hN;revert N;apply Pn.out));refine wk (tw @p0 (tw @p1 (tw @p5 @p6))) ?_;(repeat(refine Pn.mk ?_;intro N hN))))
    refine cw ?_ ?_ ?_ ?_ (⟨by obtain⟨r,i,q1,q2,q3,q4⟩:=pL;exact⟨r,i,sd @q1,q2,q3,fun x hx=>by have:=q4 x hx;(try dsimp only);omega⟩,by(try dsimp only);omega⟩)
    all_goals simp only[go_sem, ↓reduceIte,Nat.reduceEqDiff,Nat.reduceAdd,Nat.reduceSub,Nat.reduceLeDiff,reduceCtorEq,p0,p1,p5,p6,pX,pF]
   ·intro N hN
    rcases HJ with⟨Si,AH⟩|⟨id,AH,hLp,hid,Kb,xC⟩
    ·simp only[List.cons.injEq,and_true]at AH
     subst AH
     subst Si
     refine eZ ?_ ?_<;>(try((repeat(revert hN;revert N;apply Pn.out));refine wk (tw @m0 (tw @m1 (tw @m5 (tw @m6 (tw @mX (tw @mF (tw @hj (tw @iC (tw @ay.eq_1 (tw @mg (tw @jf (tw @gn (tw @fw (tw @iW (tw @x1 (tw @x2 (tw @x3 (tw @wX (tw @wA (tw @wF @aX.eq_1)))))))))))))))))))) ?_;(repeat(refine Pn.mk ?_;intro N hN))))<;>(try refine eZ ?_ ?_)<;>(try((repeat(revert hN;revert N;apply Pn.out));refine wk (tw @m0 (tw @m1 (tw @m5 (tw @m6 (tw @mX (tw @mF (tw @hj (tw @iC (tw @ay.eq_1 (tw @mg (tw @jf (tw @gn (tw @fw (tw @iW (tw @x1 (tw @x2 (tw @x3 (tw @wX (tw @wA (tw @wF @aX.eq_1)))))))))))))))))))) ?_;(repeat(refine Pn.mk ?_;intro N hN))))<;>(try refine eZ ?_ ?_)<;>(try((repeat(revert hN;revert N;apply Pn.out));refine wk (tw @m0 (tw @m1 (tw @m5 (tw @m6 (tw @mX (tw @mF (tw @hj (tw @iC (tw @ay.eq_1 (tw @mg (tw @jf (tw @gn (tw @fw (tw @iW (tw @x1 (tw @x2 (tw @x3 (tw @wX (tw @wA (tw @wF @aX.eq_1)))))))))))))))))))) ?_;(repeat(refine Pn.mk ?_;intro N hN))))<;>(try refine eZ ?_ ?_)<;>(try((repeat(revert hN;revert N;apply Pn.out));refine wk (tw @m0 (tw @m1 (tw @m5 (tw @m6 (tw @mX (tw @mF (tw @hj (tw @iC (tw @ay.eq_1 (tw @mg (tw @jf (tw @gn (tw @fw (tw @iW (tw @x1 (tw @x2 (tw @x3 (tw @wX (tw @wA (tw @wF @aX.eq_1)))))))))))))))))))) ?_;(repeat(refine Pn.mk ?_;intro N hN))))<;>(try refine eZ ?_ ?_)<;>(try((repeat(revert hN;revert N;apply Pn.out));refine wk (tw @m0 (tw @m1 (tw @m5 (tw @m6 (tw @mX (tw @mF (tw @hj (tw @iC (tw @ay.eq_1 (tw @mg (tw @jf (tw @gn (tw @fw (tw @iW (tw @x1 (tw @x2 (tw @x3 (tw @wX (tw @wA (tw @wF @aX.eq_1)))))))))))))))))))) ?_;(repeat(refine Pn.mk ?_;intro N hN))))<;>(try refine eZ ?_ ?_)<;>(try((repeat(revert hN;revert N;apply Pn.out));refine wk (tw @m0 (tw @m1 (tw @m5 (tw @m6 (tw @mX (tw @mF (tw @hj (tw @iC (tw @ay.eq_1 (tw @mg (tw @jf (tw @gn (tw @fw (tw @iW (tw @x1 (tw @x2 (tw @x3 (tw @wX (tw @wA (tw @wF @aX.eq_1)))))))))))))))))))) ?_;(repeat(refine Pn.mk ?_;intro N hN))))
     all_goals
      refine⟨by simp only[go_sem, ↓reduceIte,Nat.reduceEqDiff,Nat.reduceAdd,Nat.reduceSub,Nat.reduceLeDiff,reduceCtorEq,m0,m1,m5,m6,mX,mF,hj,iC,ay,mg,jf,gn,fw,iW,x1,x2,x3,wX,wA,wF,aX],by simp only[go_sem, ↓reduceIte,Nat.reduceEqDiff,Nat.reduceAdd,Nat.reduceSub,Nat.reduceLeDiff,reduceCtorEq,m0,m1,m5,m6,mX,mF,hj,iC,ay,mg,jf,gn,fw,iW,x1,x2,x3,wX,wA,wF,aX],by simp only[go_sem, ↓reduceIte,Nat.reduceEqDiff,Nat.reduceAdd,Nat.reduceSub,Nat.reduceLeDiff,reduceCtorEq,m0,m1,m5,m6,mX,mF,hj,iC,ay,mg,jf,gn,fw,iW,x1,x2,x3,wX,wA,wF,aX],by simp only[go_sem, ↓reduceIte,Nat.reduceEqDiff,Nat.reduceAdd,Nat.reduceSub,Nat.reduceLeDiff,reduceCtorEq,m0,m1,m5,m6,mX,mF,hj,iC,ay,mg,jf,gn,fw,iW,x1,x2,x3,wX,wA,wF,aX],by simp only[go_sem, ↓reduceIte,Nat.reduceEqDiff,Nat.reduceAdd,Nat.reduceSub,Nat.reduceLeDiff,reduceCtorEq,m0,m1,m5,m6,mX,mF,hj,iC,ay,mg,jf,gn,fw,iW,x1,x2,x3,wX,wA,wF,aX],by simp only[go_sem, ↓reduceIte,Nat.reduceEqDiff,Nat.reduceAdd,Nat.reduceSub,Nat.reduceLeDiff,reduceCtorEq,m0,m1,m5,m6,mX,mF,hj,iC,ay,mg,jf,gn,fw,iW,x1,x2,x3,wX,wA,wF,aX],HV _ (by simp only[go_sem, ↓reduceIte,Nat.reduceEqDiff,Nat.reduceAdd,Nat.reduceSub,Nat.reduceLeDiff,reduceCtorEq,m0,m1,m5,m6,mX,mF,hj,iC,ay,mg,jf,gn,fw,iW,x1,x2,x3,wX,wA,wF,aX,List.length_nil]) (by simp only[go_sem, ↓reduceIte,Nat.reduceEqDiff,Nat.reduceAdd,Nat.reduceSub,Nat.reduceLeDiff,reduceCtorEq,m0,m1,m5,m6,mX,mF,hj,iC,ay,mg,jf,gn,fw,iW,x1,x2,x3,wX,wA,wF,aX,List.map_nil,List.nil_append]) (fun i hi M7 fB=>?_),by(try dsimp only);omega⟩
      clear fB
      simp only[go_sem, ↓reduceIte,Nat.reduceEqDiff,Nat.reduceAdd,Nat.reduceSub,Nat.reduceLeDiff,reduceCtorEq,wX,wA,wF,dw hi,M7]
    ·simp only[List.cons.injEq,and_true]at AH
     subst AH
     have rl:=dw Kb
     have y1:=dm (a:=A) (b:=id) (by omega)
     have y2:=dm (a:=F) (b:=id) xC
     have y3:=dm (a:=X) (b:=id) (by omega)
     have e3:Lb.length+1<=16777216:=by omega
     have z1:(Lb.map eN).length=Lb.length:=by simp
     refine eZ ?_ ?_<;>(try((repeat(revert hN;revert N;apply Pn.out));refine wk (tw @m0 (tw @m1 (tw @m5 (tw @m6 (tw @mX (tw @mF (tw @hj (tw @iC (tw @ay.eq_1 (tw @mg (tw @jf (tw @gn (tw @fw (tw @iW (tw @x1 (tw @x2 (tw @x3 (tw @wX (tw @wA (tw @wF (tw @aX.eq_1 (tw @hid (tw @rl (tw @y1 (tw @y2 (tw @y3 (tw @e3 @z1))))))))))))))))))))))))))) ?_;(repeat(refine Pn.mk ?_;intro N hN))))<;>(try refine eZ ?_ ?_)<;>(try((repeat(revert hN;revert N;apply Pn.out));refine wk (tw @m0 (tw @m1 (tw @m5 (tw @m6 (tw @mX (tw @mF (tw @hj (tw @iC (tw @ay.eq_1 (tw @mg (tw @jf (tw @gn (tw @fw (tw @iW (tw @x1 (tw @x2 (tw @x3 (tw @wX (tw @wA (tw @wF (tw @aX.eq_1 (tw @hid (tw @rl (tw @y1 (tw @y2 (tw @y3 (tw @e3 @z1))))))))))))))))))))))))))) ?_;(repeat(refine Pn.mk ?_;intro N hN))))<;>(try refine eZ ?_ ?_)<;>(try((repeat(revert hN;revert N;apply Pn.out));refine wk (tw @m0 (tw @m1 (tw @m5 (tw @m6 (tw @mX (tw @mF (tw @hj (tw @iC (tw @ay.eq_1 (tw @mg (tw @jf (tw @gn (tw @fw (tw @iW (tw @x1 (tw @x2 (tw @x3 (tw @wX (tw @wA (tw @wF (tw @aX.eq_1 (tw @hid (tw @rl (tw @y1 (tw @y2 (tw @y3 (tw @e3 @z1))))))))))))))))))))))))))) ?_;(repeat(refine Pn.mk ?_;intro N hN))))<;>(try refine eZ ?_ ?_)<;>(try((repeat(revert hN;revert N;apply Pn.out));refine wk (tw @m0 (tw @m1 (tw @m5 (tw @m6 (tw @mX (tw @mF (tw @hj (tw @iC (tw @ay.eq_1 (tw @mg (tw @jf (tw @gn (tw @fw (tw @iW (tw @x1 (tw @x2 (tw @x3 (tw @wX (tw @wA (tw @wF (tw @aX.eq_1 (tw @hid (tw @rl (tw @y1 (tw @y2 (tw @y3 (tw @e3 @z1))))))))))))))))))))))))))) ?_;(repeat(refine Pn.mk ?_;intro N hN))))<;>(try refine eZ ?_ ?_)<;>(try((repeat(revert hN;revert N;apply Pn.out));refine wk (tw @m0 (tw @m1 (tw @m5 (tw @m6 (tw @mX (tw @mF (tw @hj (tw @iC (tw @ay.eq_1 (tw @mg (tw @jf (tw @gn (tw @fw (tw @iW (tw @x1 (tw @x2 (tw @x3 (tw @wX (tw @wA (tw @wF (tw @aX.eq_1 (tw @hid (tw @rl (tw @y1 (tw @y2 (tw @y3 (tw @e3 @z1))))))))))))))))))))))))))) ?_;(repeat(refine Pn.mk ?_;intro N hN))))<;>(try refine eZ ?_ ?_)<;>(try((repeat(revert hN;revert N;apply Pn.out));refine wk (tw @m0 (tw @m1 (tw @m5 (tw @m6 (tw @mX (tw @mF (tw @hj (tw @iC (tw @ay.eq_1 (tw @mg (tw @jf (tw @gn (tw @fw (tw @iW (tw @x1 (tw @x2 (tw @x3 (tw @wX (tw @wA (tw @wF (tw @aX.eq_1 (tw @hid (tw @rl (tw @y1 (tw @y2 (tw @y3 (tw @e3 @z1))))))))))))))))))))))))))) ?_;(repeat(refine Pn.mk ?_;intro N hN))))
     all_goals
      refine⟨by simp only[go_sem, ↓reduceIte,Nat.reduceEqDiff,Nat.reduceAdd,Nat.reduceSub,Nat.reduceLeDiff,reduceCtorEq,m0,m1,m5,m6,mX,mF,hj,iC,ay,mg,jf,gn,fw,iW,x1,x2,x3,wX,wA,wF,aX,hid,rl,y1,y2,y3,e3,z1],by simp only[go_sem, ↓reduceIte,Nat.reduceEqDiff,Nat.reduceAdd,Nat.reduceSub,Nat.reduceLeDiff,reduceCtorEq,m0,m1,m5,m6,mX,mF,hj,iC,ay,mg,jf,gn,fw,iW,x1,x2,x3,wX,wA,wF,aX,hid,rl,y1,y2,y3,e3,z1],by simp only[go_sem, ↓reduceIte,Nat.reduceEqDiff,Nat.reduceAdd,Nat.reduceSub,Nat.reduceLeDiff,reduceCtorEq,m0,m1,m5,m6,mX,mF,hj,iC,ay,mg,jf,gn,fw,iW,x1,x2,x3,wX,wA,wF,aX,hid,rl,y1,y2,y3,e3,z1],by simp only[go_sem, ↓reduceIte,Nat.reduceEqDiff,Nat.reduceAdd,Nat.reduceSub,Nat.reduceLeDiff,reduceCtorEq,m0,m1,m5,m6,mX,mF,hj,iC,ay,mg,jf,gn,fw,iW,x1,x2,x3,wX,wA,wF,aX,hid,rl,y1,y2,y3,e3,z1],by simp only[go_sem, ↓reduceIte,Nat.reduceEqDiff,Nat.reduceAdd,Nat.reduceSub,Nat.reduceLeDiff,reduceCtorEq,m0,m1,m5,m6,mX,mF,hj,iC,ay,mg,jf,gn,fw,iW,x1,x2,x3,wX,wA,wF,aX,hid,rl,y1,y2,y3,e3,z1],by simp only[go_sem, ↓reduceIte,Nat.reduceEqDiff,Nat.reduceAdd,Nat.reduceSub,Nat.reduceLeDiff,reduceCtorEq,m0,m1,m5,m6,mX,mF,hj,iC,ay,mg,jf,gn,fw,iW,x1,x2,x3,wX,wA,wF,aX,hid,rl,y1,y2,y3,e3,z1],HV _ (by simp only[go_sem, ↓reduceIte,Nat.reduceEqDiff,Nat.reduceAdd,Nat.reduceSub,Nat.reduceLeDiff,reduceCtorEq,m0,m1,m5,m6,mX,mF,hj,iC,ay,mg,jf,gn,fw,iW,x1,x2,x3,wX,wA,wF,aX,hid,rl,y1,y2,y3,e3,z1,List.length_nil]) (by simp only[go_sem, ↓reduceIte,Nat.reduceEqDiff,Nat.reduceAdd,Nat.reduceSub,Nat.reduceLeDiff,reduceCtorEq,m0,m1,m5,m6,mX,mF,hj,iC,ay,mg,jf,gn,fw,iW,x1,x2,x3,wX,wA,wF,aX,hid,rl,y1,y2,y3,e3,z1,List.map_nil,List.nil_append]) (fun i hi M7 fB=>?_),by(try dsimp only);omega⟩
      have fZ:=fB id rfl
      simp only[go_sem, ↓reduceIte,Nat.reduceEqDiff,Nat.reduceAdd,Nat.reduceSub,Nat.reduceLeDiff,reduceCtorEq,wX,wA,wF,dw hi,M7,fZ]
  ·intro N hN
   rcases HI with⟨Si,AH⟩|⟨id,AH,hLp,hid,Kb,xC⟩
   ·simp only[List.cons.injEq,and_true]at AH
    subst AH
    subst Si
    refine eZ ?_ ?_<;>(try((repeat(revert hN;revert N;apply Pn.out));refine wk (tw @a6 (tw @a5 (tw @ag0 (tw @ag1 (tw @a0 (tw @a1 (tw @hj (tw @iC (tw @ay.eq_1 (tw @ag (tw @je (tw @gn (tw @fw (tw @iV (tw @x1 (tw @x2 (tw @x3 (tw @vX (tw @vA (tw @vF @aX.eq_1)))))))))))))))))))) ?_;(repeat(refine Pn.mk ?_;intro N hN))))<;>(try refine eZ ?_ ?_)<;>(try((repeat(revert hN;revert N;apply Pn.out));refine wk (tw @a6 (tw @a5 (tw @ag0 (tw @ag1 (tw @a0 (tw @a1 (tw @hj (tw @iC (tw @ay.eq_1 (tw @ag (tw @je (tw @gn (tw @fw (tw @iV (tw @x1 (tw @x2 (tw @x3 (tw @vX (tw @vA (tw @vF @aX.eq_1)))))))))))))))))))) ?_;(repeat(refine Pn.mk ?_;intro N hN))))<;>(try refine eZ ?_ ?_)<;>(try((repeat(revert hN;revert N;apply Pn.out));refine wk (tw @a6 (tw @a5 (tw @ag0 (tw @ag1 (tw @a0 (tw @a1 (tw @hj (tw @iC (tw @ay.eq_1 (tw @ag (tw @je (tw @gn (tw @fw (tw @iV (tw @x1 (tw @x2 (tw @x3 (tw @vX (tw @vA (tw @vF @aX.eq_1)))))))))))))))))))) ?_;(repeat(refine Pn.mk ?_;intro N hN))))<;>(try refine eZ ?_ ?_)<;>(try((repeat(revert hN;revert N;apply Pn.out));refine wk (tw @a6 (tw @a5 (tw @ag0 (tw @ag1 (tw @a0 (tw @a1 (tw @hj (tw @iC (tw @ay.eq_1 (tw @ag (tw @je (tw @gn (tw @fw (tw @iV (tw @x1 (tw @x2 (tw @x3 (tw @vX (tw @vA (tw @vF @aX.eq_1)))))))))))))))))))) ?_;(repeat(refine Pn.mk ?_;intro N hN))))<;>(try refine eZ ?_ ?_)<;>(try((repeat(revert hN;revert N;apply Pn.out));refine wk (tw @a6 (tw @a5 (tw @ag0 (tw @ag1 (tw @a0 (tw @a1 (tw @hj (tw @iC (tw @ay.eq_1 (tw @ag (tw @je (tw @gn (tw @fw (tw @iV (tw @x1 (tw @x2 (tw @x3 (tw @vX (tw @vA (tw @vF @aX.eq_1)))))))))))))))))))) ?_;(repeat(refine Pn.mk ?_;intro N hN))))<;>(try refine eZ ?_ ?_)<;>(try((repeat(revert hN;revert N;apply Pn.out));refine wk (tw @a6 (tw @a5 (tw @ag0 (tw @ag1 (tw @a0 (tw @a1 (tw @hj (tw @iC (tw @ay.eq_1 (tw @ag (tw @je (tw @gn (tw @fw (tw @iV (tw @x1 (tw @x2 (tw @x3 (tw @vX (tw @vA (tw @vF @aX.eq_1)))))))))))))))))))) ?_;(repeat(refine Pn.mk ?_;intro N hN))))
    all_goals
     refine⟨by simp only[go_sem, ↓reduceIte,Nat.reduceEqDiff,Nat.reduceAdd,Nat.reduceSub,Nat.reduceLeDiff,reduceCtorEq,a6,a5,ag0,ag1,a0,a1,hj,iC,ay,ag,je,gn,fw,iV,x1,x2,x3,vX,vA,vF,aX],by simp only[go_sem, ↓reduceIte,Nat.reduceEqDiff,Nat.reduceAdd,Nat.reduceSub,Nat.reduceLeDiff,reduceCtorEq,a6,a5,ag0,ag1,a0,a1,hj,iC,ay,ag,je,gn,fw,iV,x1,x2,x3,vX,vA,vF,aX],by simp only[go_sem, ↓reduceIte,Nat.reduceEqDiff,Nat.reduceAdd,Nat.reduceSub,Nat.reduceLeDiff,reduceCtorEq,a6,a5,ag0,ag1,a0,a1,hj,iC,ay,ag,je,gn,fw,iV,x1,x2,x3,vX,vA,vF,aX],by simp only[go_sem, ↓reduceIte,Nat.reduceEqDiff,Nat.reduceAdd,Nat.reduceSub,Nat.reduceLeDiff,reduceCtorEq,a6,a5,ag0,ag1,a0,a1,hj,iC,ay,ag,je,gn,fw,iV,x1,x2,x3,vX,vA,vF,aX],by simp only[go_sem, ↓reduceIte,Nat.reduceEqDiff,Nat.reduceAdd,Nat.reduceSub,Nat.reduceLeDiff,reduceCtorEq,a6,a5,ag0,ag1,a0,a1,hj,iC,ay,ag,je,gn,fw,iV,x1,x2,x3,vX,vA,vF,aX],by simp only[go_sem, ↓reduceIte,Nat.reduceEqDiff,Nat.reduceAdd,Nat.reduceSub,Nat.reduceLeDiff,reduceCtorEq,a6,a5,ag0,ag1,a0,a1,hj,iC,ay,ag,je,gn,fw,iV,x1,x2,x3,vX,vA,vF,aX],HU _ (by simp only[go_sem, ↓reduceIte,Nat.reduceEqDiff,Nat.reduceAdd,Nat.reduceSub,Nat.reduceLeDiff,reduceCtorEq,a6,a5,ag0,ag1,a0,a1,hj,iC,ay,ag,je,gn,fw,iV,x1,x2,x3,vX,vA,vF,aX,List.length_nil]) (by simp only[go_sem, ↓reduceIte,Nat.reduceEqDiff,Nat.reduceAdd,Nat.reduceSub,Nat.reduceLeDiff,reduceCtorEq,a6,a5,ag0,ag1,a0,a1,hj,iC,ay,ag,je,gn,fw,iV,x1,x2,x3,vX,vA,vF,aX,List.map_nil,List.nil_append]) (fun i hi M7 fB=>?_),by(try dsimp only);omega⟩
     clear fB
     simp only[go_sem, ↓reduceIte,Nat.reduceEqDiff,Nat.reduceAdd,Nat.reduceSub,Nat.reduceLeDiff,reduceCtorEq,vX,vA,vF,dw hi,M7]
   ·simp only[List.cons.injEq,and_true]at AH
    subst AH
    have rl:=dw Kb
    have y1:=dm (a:=A) (b:=id) (by omega)
    have y2:=dm (a:=F) (b:=id) xC
    have y3:=dm (a:=X) (b:=id) (by omega)
    have e3:La.length+1<=16777216:=by omega
    have z1:(La.map eN).length=La.length:=by simp
    refine eZ ?_ ?_<;>(try((repeat(revert hN;revert N;apply Pn.out));refine wk (tw @a6 (tw @a5 (tw @ag0 (tw @ag1 (tw @a0 (tw @a1 (tw @hj (tw @iC (tw @ay.eq_1 (tw @ag (tw @je (tw @gn (tw @fw (tw @iV (tw @x1 (tw @x2 (tw @x3 (tw @vX (tw @vA (tw @vF (tw @aX.eq_1 (tw @hid (tw @rl (tw @y1 (tw @y2 (tw @y3 (tw @e3 @z1))))))))))))))))))))))))))) ?_;(repeat(refine Pn.mk ?_;intro N hN))))<;>(try refine eZ ?_ ?_)<;>(try((repeat(revert hN;revert N;apply Pn.out));refine wk (tw @a6 (tw @a5 (tw @ag0 (tw @ag1 (tw @a0 (tw @a1 (tw @hj (tw @iC (tw @ay.eq_1 (tw @ag (tw @je (tw @gn (tw @fw (tw @iV (tw @x1 (tw @x2 (tw @x3 (tw @vX (tw @vA (tw @vF (tw @aX.eq_1 (tw @hid (tw @rl (tw @y1 (tw @y2 (tw @y3 (tw @e3 @z1))))))))))))))))))))))))))) ?_;(repeat(refine Pn.mk ?_;intro N hN))))<;>(try refine eZ ?_ ?_)<;>(try((repeat(revert hN;revert N;apply Pn.out));refine wk (tw @a6 (tw @a5 (tw @ag0 (tw @ag1 (tw @a0 (tw @a1 (tw @hj (tw @iC (tw @ay.eq_1 (tw @ag (tw @je (tw @gn (tw @fw (tw @iV (tw @x1 (tw @x2 (tw @x3 (tw @vX (tw @vA (tw @vF (tw @aX.eq_1 (tw @hid (tw @rl (tw @y1 (tw @y2 (tw @y3 (tw @e3 @z1))))))))))))))))))))))))))) ?_;(repeat(refine Pn.mk ?_;intro N hN))))<;>(try refine eZ ?_ ?_)<;>(try((repeat(revert hN;revert N;apply Pn.out));refine wk (tw @a6 (tw @a5 (tw @ag0 (tw @ag1 (tw @a0 (tw @a1 (tw @hj (tw @iC (tw @ay.eq_1 (tw @ag (tw @je (tw @gn (tw @fw (tw @iV (tw @x1 (tw @x2 (tw @x3 (tw @vX (tw @vA (tw @vF (tw @aX.eq_1 (tw @hid (tw @rl (tw @y1 (tw @y2 (tw @y3 (tw @e3 @z1))))))))))))))))))))))))))) ?_;(repeat(refine Pn.mk ?_;intro N hN))))<;>(try refine eZ ?_ ?_)<;>(try((repeat(revert hN;revert N;apply Pn.out));refine wk (tw @a6 (tw @a5 (tw @ag0 (tw @ag1 (tw @a0 (tw @a1 (tw @hj (tw @iC (tw @ay.eq_1 (tw @ag (tw @je (tw @gn (tw @fw (tw @iV (tw @x1 (tw @x2 (tw @x3 (tw @vX (tw @vA (tw @vF (tw @aX.eq_1 (tw @hid (tw @rl (tw @y1 (tw @y2 (tw @y3 (tw @e3 @z1))))))))))))))))))))))))))) ?_;(repeat(refine Pn.mk ?_;intro N hN))))<;>(try refine eZ ?_ ?_)<;>(try((repeat(revert hN;revert N;apply Pn.out));refine wk (tw @a6 (tw @a5 (tw @ag0 (tw @ag1 (tw @a0 (tw @a1 (tw @hj (tw @iC (tw @ay.eq_1 (tw @ag (tw @je (tw @gn (tw @fw (tw @iV (tw @x1 (tw @x2 (tw @x3 (tw @vX (tw @vA (tw @vF (tw @aX.eq_1 (tw @hid (tw @rl (tw @y1 (tw @y2 (tw @y3 (tw @e3 @z1))))))))))))))))))))))))))) ?_;(repeat(refine Pn.mk ?_;intro N hN))))
    all_goals
     refine⟨by simp only[go_sem, ↓reduceIte,Nat.reduceEqDiff,Nat.reduceAdd,Nat.reduceSub,Nat.reduceLeDiff,reduceCtorEq,a6,a5,ag0,ag1,a0,a1,hj,iC,ay,ag,je,gn,fw,iV,x1,x2,x3,vX,vA,vF,aX,hid,rl,y1,y2,y3,e3,z1],by simp only[go_sem, ↓reduceIte,Nat.reduceEqDiff,Nat.reduceAdd,Nat.reduceSub,Nat.reduceLeDiff,reduceCtorEq,a6,a5,ag0,ag1,a0,a1,hj,iC,ay,ag,je,gn,fw,iV,x1,x2,x3,vX,vA,vF,aX,hid,rl,y1,y2,y3,e3,z1],by simp only[go_sem, ↓reduceIte,Nat.reduceEqDiff,Nat.reduceAdd,Nat.reduceSub,Nat.reduceLeDiff,reduceCtorEq,a6,a5,ag0,ag1,a0,a1,hj,iC,ay,ag,je,gn,fw,iV,x1,x2,x3,vX,vA,vF,aX,hid,rl,y1,y2,y3,e3,z1],by simp only[go_sem, ↓reduceIte,Nat.reduceEqDiff,Nat.reduceAdd,Nat.reduceSub,Nat.reduceLeDiff,reduceCtorEq,a6,a5,ag0,ag1,a0,a1,hj,iC,ay,ag,je,gn,fw,iV,x1,x2,x3,vX,vA,vF,aX,hid,rl,y1,y2,y3,e3,z1],by simp only[go_sem, ↓reduceIte,Nat.reduceEqDiff,Nat.reduceAdd,Nat.reduceSub,Nat.reduceLeDiff,reduceCtorEq,a6,a5,ag0,ag1,a0,a1,hj,iC,ay,ag,je,gn,fw,iV,x1,x2,x3,vX,vA,vF,aX,hid,rl,y1,y2,y3,e3,z1],by simp only[go_sem, ↓reduceIte,Nat.reduceEqDiff,Nat.reduceAdd,Nat.reduceSub,Nat.reduceLeDiff,reduceCtorEq,a6,a5,ag0,ag1,a0,a1,hj,iC,ay,ag,je,gn,fw,iV,x1,x2,x3,vX,vA,vF,aX,hid,rl,y1,y2,y3,e3,z1],HU _ (by simp only[go_sem, ↓reduceIte,Nat.reduceEqDiff,Nat.reduceAdd,Nat.reduceSub,Nat.reduceLeDiff,reduceCtorEq,a6,a5,ag0,ag1,a0,a1,hj,iC,ay,ag,je,gn,fw,iV,x1,x2,x3,vX,vA,vF,aX,hid,rl,y1,y2,y3,e3,z1,List.length_nil]) (by simp only[go_sem, ↓reduceIte,Nat.reduceEqDiff,Nat.reduceAdd,Nat.reduceSub,Nat.reduceLeDiff,reduceCtorEq,a6,a5,ag0,ag1,a0,a1,hj,iC,ay,ag,je,gn,fw,iV,x1,x2,x3,vX,vA,vF,aX,hid,rl,y1,y2,y3,e3,z1,List.map_nil,List.nil_append]) (fun i hi M7 fB=>?_),by(try dsimp only);omega⟩
     have fZ:=fB id rfl
     simp only[go_sem, ↓reduceIte,Nat.reduceEqDiff,Nat.reduceAdd,Nat.reduceSub,Nat.reduceLeDiff,reduceCtorEq,vX,vA,vF,dw hi,M7,fZ]
 ·have gw:j=bs.length:=by omega
  subst gw
  (try((repeat(revert hN;revert N;apply Pn.out));refine wk (tw @a6 (tw @a5 (tw @ag0 (tw @ag1 (tw @a0 (tw @a1 @hj)))))) ?_;(repeat(refine Pn.mk ?_;intro N hN))))
  exact gK (.inl rfl) (by simp only[e5,gV,go_sem, ↓reduceIte,Nat.reduceEqDiff,Nat.reduceAdd,Nat.reduceSub,Nat.reduceLeDiff,reduceCtorEq];rfl) ⟨X,A,F,rfl,hXs,⟨ag0,⟨rows,ids,ag,hR,oI,fun x hx=>by have:=ny x hx;(try dsimp only);omega⟩,ag1,hXA,hAF,by(try dsimp only);omega⟩⟩
end Go.Proofs.YtgoelphibofcmaaGreat.V

namespace Go.Proofs.YtgoelphibofcmaaGreat.V
open Go.RowKit
attribute [local irreducible] dD wpOps gI Call
attribute [local go_sem] aK fW eU gE gy cE upd ck K.av cN AV.cells AV.cell rowOf rowsOf part ld rowAt bB bY dO ev iI bK db eI gr e8 dx eB cZ cY ea ec bQ aY cQ bP cU cR ez eC eA cP bV da ew bL aL cW cF iH bz cK bR aU dh aT dP AV.undef bF bG eh eu dX dY cI eH eK cD eE eD cV cX List.getD_cons_zero List.getD_cons_succ List.getD_nil List.all_cons List.all_nil Bool.and_true Bool.true_and Bool.and_self Bool.not_true Bool.not_false Option.map_some Option.map_none Option.bind_some Option.bind_none List.length_cons List.length_nil List.take_succ_cons List.take_zero List.take_nil List.drop_succ_cons List.drop_zero List.drop_nil List.head?_cons List.map_cons List.map_nil List.getElem?_cons_zero List.getElem?_cons_succ List.cons_append List.nil_append List.append_nil List.length_map List.set_cons_zero List.set_cons_succ Nat.reduceMul eq_self Int.toNat_natCast Int.natCast_nonneg and_self true_and and_true decide_true decide_false Bool.false_eq_true Nat.zero_add Nat.add_zero List.contains_cons List.contains_nil Bool.or_false Bool.false_or beq_self_eq_true Nat.reduceBEq ne_eq not_true_eq_false not_false_eq_true Id.mk.injEq false_and and_false Nat.reduceLT Int.reduceLE Int.reduceLT Int.reduceToNat Int.reduceNeg Int.reduceAdd Nat.le_refl List.length_append beq_true beq_false Bool.not_eq_eq_eq_not or_false false_or dQ aj aq aH bd bE cm aW bc aN bf cL bU
theorem qj.frame {A:Id} {lo nx tR:Nat} {L:List (List Nat)} {g g':Rows} (h:qj A lo L g nx) (hA:A.aZ<nx) (hf:∀i:Id,i.aZ<nx->lo<i.aZ∨i=A->g' i=g i) (hn:nx<=tR):qj A lo L g' tR:=by
 obtain⟨rows,ids,h1,h2,h3,h4⟩:=h
 refine⟨rows,ids,(hf A hA (.inr rfl)).trans h1,h2.frame LW fun i hi=>hf i (h4 i hi).2 (.inl (h4 i hi).1),h3,fun i hi=>?_⟩
 have:=h4 i hi;omega
theorem nG.frame {cnt:Nat} {bs:List PB} {f:Nat->Int} {X A F:Id} {g g':Rows} {nx tR:Nat} (h:nG cnt bs f X A F g nx) (hf:∀i:Id,i.aZ<nx->g' i=g i) (hn:nx<=tR):nG cnt bs f X A F g' tR:=by
 have h1:=h.xa;have h2:=h.af;have h3:=h.fn
 exact⟨(hf X (by omega)).trans h.x,h.a.frame (by omega) (fun i hi _=>hf i hi) hn,(hf F h3).trans h.f,h1,h2,by omega⟩
theorem nG.Ph {cnt:Nat} {bs:List PB} {f f':Nat->Int} {X A F:Id} {g g':Rows} {nx tR:Nat} (h:nG cnt bs f X A F g nx) (hF:g' F=some ⟨true,1,dG f' bs.length⟩) (hf:∀i:Id,i.aZ<nx->(i=F)=False->g' i=g i) (hn:nx<=tR):nG cnt bs f' X A F g' tR:=by
 have h1:=h.xa;have h2:=h.af;have h3:=h.fn
 refine⟨(hf X (by omega) (dm (by omega)).1).trans h.x,h.a.frame (by omega) (fun i hi jA=>hf i hi ?_) hn,hF,h1,h2,by omega⟩
 rcases jA with jA|rfl
 ·exact(dm jA).2
 ·exact(dm h2).1
theorem NI (cnt:Nat) (bs:List PB) (f:Nat->Int) (hs:Small bs f) (e v:Nat) (he:e<bs.length) (X A F:Id) (σ:ar) (nx:Nat) (hS:nG cnt bs f X A F σ.get nx) (hn:nx<=σ.next):
  Call Tryz.prog 261 [.ptr X 0 0,.int .i64 v,.int .i64 e] σ fun r σ'=>nG cnt bs (sZ bs f e v) X A F σ'.get nx/\σ.next<=σ'.next/\∀i:Id,(i=F)=False->σ'.get i=σ.get i:=by
 refine gW eG rfl fun hl=>?_
 clear hl
 have hX:=hS.x
 have hF:=hS.f
 have hb:=tz he
 have SA:=dB (f:=f) he
 have tl:=dt f bs.length
 obtain⟨⟨s0,s1⟩,s2,s3⟩:=hs e he
 have hei:(e:Int)<(bs.length:Int):=by omega
 have w1:IntKind.i64.wrap (f e+1)=f e+1:=bp (by omega)
 have w2:IntKind.i64.wrap (f e-1)=f e+-1:=by rw[bp (by omega)];omega
 rw[bq]at SA
 unfold sZ
 by_cases h:(bH bs e).a=v
 ·have eO:(dG f bs.length).set e (bq (f e+1))=dG (fun j=>f j+if j=e then(if (bH bs e).a=v then 1 else -1)else 0) bs.length:=kO he (by rw[if_pos rfl,if_pos h]) fun i _ hi=>by rw[if_neg hi,Int.add_zero]
  rw[bq]at eO
  generalize Q5:bH bs e=b at *
  have hd:decide ((b.a:Int)=(v:Int))=true:=decide_eq_true (by rw[h])
  (try((repeat(revert hN;revert N;apply Pn.out));refine wk (tw @hX (tw @hF (tw @hb (tw @SA (tw @tl (tw @hei (tw @w1 (tw @eO (tw @hd (tw @ay.eq_1 @aX.eq_1)))))))))) ?_;(repeat(refine Pn.mk ?_;intro N hN))))
  exact gK (.inr rfl) (vs:=[]) rfl ⟨hS.Ph (sd @Nat.zero_add) (fun i hi fZ=>sd @fZ) (Nat.le_refl _),by(try dsimp only);omega,fun i fZ=>sd @fZ⟩
 ·have eO:(dG f bs.length).set e (bq (f e+-1))=dG (fun j=>f j+if j=e then(if (bH bs e).a=v then 1 else -1)else 0) bs.length:=kO he (by rw[if_pos rfl,if_neg h]) fun i _ hi=>by rw[if_neg hi,Int.add_zero]
  rw[bq]at eO
  generalize Q5:bH bs e=b at *
  have hd:decide ((b.a:Int)=(v:Int))=false:=decide_eq_false fun hc=>h (by omega)
  (try((repeat(revert hN;revert N;apply Pn.out));refine wk (tw @hX (tw @hF (tw @hb (tw @SA (tw @tl (tw @hei (tw @w2 (tw @eO (tw @hd (tw @ay.eq_1 @aX.eq_1)))))))))) ?_;(repeat(refine Pn.mk ?_;intro N hN))))
  exact gK (.inr rfl) (vs:=[]) rfl ⟨hS.Ph (sd @Nat.zero_add) (fun i hi fZ=>sd @fZ) (Nat.le_refl _),by(try dsimp only);omega,fun i fZ=>sd @fZ⟩
structure nI (bs:List PB) (out:Nat->Int) (f f':Nat->Int) (x v:Nat):Prop where
 le:∀i,i<bs.length->f' i<=(bH bs i).s/\-(bH bs i).s<=f' i
 cut:∀S:Nat->Bool,Fa S bs f'=Fa S bs f+bi (S x)-bi (S v)
 xV:∀e,e<bs.length->out (bH bs e).a<=out v->out (bH bs e).b<=out v->f' e=f e
section
variable {cnt:Nat} {bs:List PB} {out:Nat->Int} {f f':Nat->Int} {x v y:Nat}
theorem nI.start (h:∀i,i<bs.length->f i<=(bH bs i).s/\-(bH bs i).s<=f i):nI bs out f f x x:=⟨h,fun S=>by omega,fun _ _ _ _=>rfl⟩
theorem nI.step (h:nI bs out f f' x v) {e:Nat} (he:e<bs.length) (hi:DS bs e v) (hr:0<fx bs f' e v) (hd:out (bw bs e v)=out v-1):nI bs out f (sZ bs f' e v) x (bw bs e v):=by
 refine⟨fun i ly=>?_,fun S=>?_,fun i ly ha hb=>?_⟩
 ·have h1:=h.le i ly
  unfold sZ
  by_cases El:i=e
  ·subst El
   rw[if_pos rfl]
   unfold fx at hr
   split at hr<;>rename_i hc
   ·rw[if_pos hc];omega
   ·rw[if_neg hc];omega
  ·rw[if_neg El];omega
 ·rw[Fb he hi,h.cut S];omega
 ·have El:i≠e:=by
   rintro rfl
   rcases hi with hi|hi
   ·rw[hi]at ha;omega
   ·rw[hi]at hb;omega
  unfold sZ
  rw[if_neg El,Int.add_zero]
  exact h.xV i ly (by omega) (by omega)
theorem nI.goes (h:nI bs out f f' x v) (hs:yj cnt bs f y out) (hv:v<cnt) (h0:0<out v):∃e∈iL bs bs.length v,0<fx bs f' e v/\out (bw bs e v)=out v-1:=by
 obtain⟨e,h1,h2,h3,h4⟩:=hs.down v hv h0
 refine⟨e,qI.2 ⟨h1,h2⟩,?_,h4⟩
 have hf:f' e=f e:=by
  refine h.xV e h1 ?_ ?_
  ·unfold bw at h4
   split at h4
   ·rename_i ha;rw[ha];exact Int.le_refl _
   ·omega
  ·unfold bw at h4
   rcases h2 with h2|h2
   ·rw[if_pos h2]at h4;omega
   ·rw[h2];exact Int.le_refl _
 unfold fx at h3 ⊢
 rw[hf];exact h3
theorem nI.done {val:Int} (h:nI bs out f f' x y) (hf:jM bs f x y val):jM bs f' x y (val+1):=
 ⟨h.le,fun S hx hy=>by rw[h.cut S,hf.cut S hx hy,hx,hy];simp[bi]⟩
theorem Dy {val:Int} (hs:yj cnt bs f y out) (ok:mN cnt bs) (hf:jM bs f x y val) (hx:out x<0):∃S:Nat->Bool,S x=true/\S y=false/\val=iS S bs:=by
 refine⟨fun v=>decide (out v<0),decide_eq_true hx,decide_eq_false (by rw[hs.first];omega),hf.full (decide_eq_true hx) (decide_eq_false (by rw[hs.first];omega)) fun i hi sO=>⟨fun h1 h2 hr=>?_,fun h1 h2 hr=>?_⟩⟩
 ·have MF:=of_decide_eq_true h1
  have BS:=of_decide_eq_false h2
  have:=hs.shut i (bH bs i).a hi (.inl rfl) (by unfold bw;rw[if_pos rfl];omega) hr
  omega
 ·have MF:=of_decide_eq_true h1
  have BS:=of_decide_eq_false h2
  have:=hs.shut i (bH bs i).b hi (.inr rfl) (by unfold bw;rw[if_neg sO];omega) hr
  omega
end
end Go.Proofs.YtgoelphibofcmaaGreat.V

namespace Go.Proofs.YtgoelphibofcmaaGreat.V
open Go.RowKit
attribute [local irreducible] dD wpOps gI Call
attribute [local go_sem] aK fW eU gE gy cE upd ck K.av cN AV.cells AV.cell rowOf rowsOf part ld rowAt bB bY dO ev iI bK db eI gr e8 dx eB cZ cY ea ec bQ aY cQ bP cU cR ez eC eA cP bV da ew bL aL cW cF iH bz cK bR aU dh aT dP AV.undef bF bG eh eu dX dY cI eH eK cD eE eD cV cX List.getD_cons_zero List.getD_cons_succ List.getD_nil List.all_cons List.all_nil Bool.and_true Bool.true_and Bool.and_self Bool.not_true Bool.not_false Option.map_some Option.map_none Option.bind_some Option.bind_none List.length_cons List.length_nil List.take_succ_cons List.take_zero List.take_nil List.drop_succ_cons List.drop_zero List.drop_nil List.head?_cons List.map_cons List.map_nil List.getElem?_cons_zero List.getElem?_cons_succ List.cons_append List.nil_append List.append_nil List.length_map List.set_cons_zero List.set_cons_succ Nat.reduceMul eq_self Int.toNat_natCast Int.natCast_nonneg and_self true_and and_true decide_true decide_false Bool.false_eq_true Nat.zero_add Nat.add_zero List.contains_cons List.contains_nil Bool.or_false Bool.false_or beq_self_eq_true Nat.reduceBEq ne_eq not_true_eq_false not_false_eq_true Id.mk.injEq false_and and_false Nat.reduceLT Int.reduceLE Int.reduceLT Int.reduceToNat Int.reduceNeg Int.reduceAdd Nat.le_refl List.length_append beq_true beq_false Bool.not_eq_eq_eq_not or_false false_or dQ aj aq aH bd bE cm aW bc aN bf cL bU
theorem vY {bs:List PB} {f:Nat->Int} (dc:∀e,e<bs.length->0<=(bH bs e).s/\(bH bs e).s<=4) (h:∀i,i<bs.length->f i<=(bH bs i).s/\-(bH bs i).s<=f i):Small bs f:=fun e he=>by
 have:=dc e he;have:=h e he;omega
theorem qj.at_ {A:Id} {lo nx v:Nat} {L:List (List Nat)} {l:List Nat} {g:Rows} (h:qj A lo L g nx) (hv:L[v]? =some l) (hl:0<l.length):∃(rows:List (List AV)) (id:Id),g A=some ⟨true,1,rows⟩/\rows.length=L.length/\rows[v]? =some [.own id 0 l.length]/\g id=some ⟨true,1,l.map eN⟩/\lo<id.aZ/\id.aZ<nx:=by
 obtain⟨rows,ids,h1,h2,h3,h4⟩:=h
 have hk:v<L.length:=(List.getElem?_eq_some_iff.1 hv).1
 obtain⟨cs,ic,dn,hR,PM⟩:=h2.at_ v hk
 rw[ku hv hk]at hR
 rcases hR with⟨h5,_⟩|⟨id,rfl,_,h6,rfl⟩
 ·subst h5;simp at hl
 ·have:=h4 id (PM id (by simp))
  exact⟨rows,id,h1,h2.len,dn,h6,this.1,this.2⟩
theorem ME (cnt:Nat) (hn:cnt<=1048576) (bs:List PB) (ok:mN cnt bs) (mo:bs.length<=1048576) (dc:∀e,e<bs.length->0<=(bH bs e).s/\(bH bs e).s<=4) (f:Nat->Int) (x y:Nat) (hx:x<cnt) (hy:y<cnt) (LQ:x≠y) (val:Int) (hf:jM bs f x y val)
  (X A F:Id) (σ:ar) (nb:Nat) (hS:nG cnt bs f X A F σ.get nb) (iU:nb<=σ.next):
  Call Tryz.prog 238 [.ptr X 0 0,.int .i64 x,.int .i64 y] σ fun r σ'=>∃b f',r=.bool b/\nG cnt bs f' X A F σ'.get nb/\σ.next<=σ'.next/\(∀i:Id,i.aZ<nb->(i=F)=False->σ'.get i=σ.get i)/\
   (b=false->f'=f/\∃S:Nat->Bool,S x=true/\S y=false/\val=iS S bs)/\(b=true->jM bs f' x y (val+1)):=by
 refine gW eG rfl fun hl=>?_
 clear hl
 have BZ:(x:Int)<(cnt:Int):=by omega
 have hz:∀(g:Rows),(∀i:Id,i.aZ<nb->g i=σ.get i)->cG (dQ g) 6 [.ptr X 0 0,.int .i64 (y:Int)]=some [.cr (fF cnt bs f),.int .i64 y]:=fun g hg=>by
  have:=(hS.frame hg (Nat.le_refl _)).fz
  simp only[aj,aq,this,aH,Option.map_some]
 (try((repeat(revert hN;revert N;apply Pn.out));refine wk @Nat.zero_add ?_;(repeat(refine Pn.mk ?_;intro N hN))))
 refine .inr (aV _ _ _ _ _ (fun r σ1 hq=>?_) ((EI cnt hn bs ok mo f (vY dc hf.le) y hy).x mixed (hz _ (fun i hi=>rfl))))
 obtain⟨⟨out,rfl,Np⟩,rfl⟩:=hq
 refine hN _ _ ?_
 clear hN N
 have Rp:=dB (f:=out) hx
 have tl:=dt out cnt
 by_cases jQ:out x<0
 ·(try((repeat(revert hN;revert N;apply Pn.out));refine wk (tw @Rp (tw @jQ (tw @BZ (tw @tl @bq.eq_1)))) ?_;(repeat(refine Pn.mk ?_;intro N hN))))
  exact gK (.inl rfl) (vs:=[.bool false]) (sd @Nat.zero_add) ⟨false,f,rfl,hS.frame (fun i hi=>rfl) (Nat.le_refl _),by(try dsimp only);omega,fun i _ _=>rfl,fun _=>⟨rfl,Dy Np ok hf jQ⟩,fun h=>by cases h⟩
 (try((repeat(revert hN;revert N;apply Pn.out));refine wk (tw @Rp (tw @jQ (tw @BZ (tw @tl @bq.eq_1)))) ?_;(repeat(refine Pn.mk ?_;intro N hN))))
 refine aJ (fun m env st=>∃(v:Nat) (f':Nat->Int),m=(out v).toNat/\v<cnt/\0<=out v/\env 8=.int .i64 (v:Int)/\nI bs out f f' x v/\nG cnt bs f' X A F st.get nb/\(∀i:Id,i.aZ<nb->(i=F)=False->st.get i=σ.get i)/\σ.next<=st.next) (out x).toNat ⟨x,f,rfl,hx,by omega,by(simp only[go_sem, ↓reduceIte,Nat.reduceEqDiff,Nat.reduceAdd,Nat.reduceSub,Nat.reduceLeDiff,reduceCtorEq]),nI.start hf.le,hS.frame (fun i hi=>rfl) (Nat.le_refl _),fun i _ _=>rfl,by(try dsimp only);omega⟩ ?_
 rintro m env_b st_b ⟨v,f',rfl,hv,pU,b8,hW,hN1,jq,hle⟩ ej
 have b0:=ej 0 (by kernel_rfl)
 have b2:=ej 2 (by kernel_rfl)
 have b7:=ej 7 (by kernel_rfl)
 simp only[go_sem, ↓reduceIte,Nat.reduceEqDiff,Nat.reduceAdd,Nat.reduceSub,Nat.reduceLeDiff,reduceCtorEq]at b0 b2 b7
 clear ej
 by_cases Rv:v=y
 ·have hd:decide ((v:Int)=(y:Int))=true:=decide_eq_true (by rw[Rv])
  subst Rv
  (try((repeat(revert hN;revert N;apply Pn.out));refine wk (tw @b0 (tw @b2 (tw @b7 (tw @b8 @hd)))) ?_;(repeat(refine Pn.mk ?_;intro N hN))))
  exact gK (.inl rfl) (vs:=[.bool true]) (sd @Nat.zero_add) ⟨true,f',rfl,hN1,by(try dsimp only);omega,jq,fun h=>(by cases h),fun _=>hW.done hf⟩
 have hd:decide ((v:Int)=(y:Int))=false:=decide_eq_false fun h=>Rv (by omega)
 have rF:0<out v:=by
  have:=Np.zero v hv
  rcases Int.lt_or_eq_of_le pU with h|h
  ·exact h
  ·exact absurd (this h.symm) Rv
 have LD:=hW.goes Np hv rF
 have hIm:∀ed∈iL bs bs.length v,ed<bs.length/\DS bs ed v:=fun ed h=>qI.1 h
 have hIL:(k6 cnt bs bs.length)[v]? =some (iL bs bs.length v):=by simp[k6,hv]
 have hIl:=qH bs bs.length v
 generalize iL bs bs.length v=I at *
 have hIp:0<I.length:=by
  obtain⟨ed,h,_⟩:=LD
  exact List.length_pos_of_mem h
 obtain⟨rows,id,Rb,tL,lk,hid,hid1,hid2⟩:=hN1.a.at_ hIL hIp
 rw[jh]at tL
 have hgX:=hN1.x
 have CV:(v:Int)<(cnt:Int):=by omega
 have lQ:=dB (f:=out) hv
 have rW:IntKind.i64.wrap (out v-1)=out v-1:=bp (by have:=Np.lo v hv;omega)
 have pR:(I.map eN).length=I.length:=by simp
 have Km:=vY dc hW.le
 have kh:∀(g:Rows),(∀i:Id,i.aZ<nb->g i=st_b.get i)->∀ed:Nat,cG (dQ g) 6 [.ptr X 0 0,.int .i64 (v:Int),.int .i64 (ed:Int)]=some [.cr (fF cnt bs f'),.int .i64 v,.int .i64 ed]:=fun g hg ed=>by
  have:=(hN1.frame hg (Nat.le_refl _)).fz
  simp only[aj,aq,this,aH,Option.map_some]
 rw[bq]at lQ
 (try((repeat(revert hN;revert N;apply Pn.out));refine wk (tw @b0 (tw @b2 (tw @b7 (tw @b8 @hd)))) ?_;(repeat(refine Pn.mk ?_;intro N hN))))
 refine aJ (fun n env st=>∃k:Nat,n=(I.length)-k/\k<=(I.length)/\env 11=.int .i64 (k:Int)/\(∃(sY DZ:Int),env 9=.int .i64 sY/\env 10=.int .i64 DZ/\((sY<0/\∀z,z<k->¬(0<fx bs f' (I.getD z 0) v/\out (bw bs (I.getD z 0) v)=out v-1))∨∃ed:Nat,ed∈I/\DZ=(ed:Int)/\sY=(bw bs ed v:Int)/\0<fx bs f' ed v/\out (bw bs ed v)=out v-1))/\((∀i:Id,st.get i=st_b.get i)/\st_b.next<=st.next)) (I.length) ⟨0,by omega,by omega,sl (tw @b0 (tw @b2 (tw @b7 @b8))),⟨-1,0,by(simp only[go_sem, ↓reduceIte,Nat.reduceEqDiff,Nat.reduceAdd,Nat.reduceSub,Nat.reduceLeDiff,reduceCtorEq]),by(simp only[go_sem, ↓reduceIte,Nat.reduceEqDiff,Nat.reduceAdd,Nat.reduceSub,Nat.reduceLeDiff,reduceCtorEq]),.inl ⟨by omega,fun z hz=>by omega⟩⟩,⟨fun i=>rfl,by(try dsimp only);omega⟩⟩ ?_
 rintro n_c env_c st_c ⟨k,rfl,cle,nq,cI0,cI1⟩ cfr
 have c0:=cfr 0 (by kernel_rfl);have c2:=cfr 2 (by kernel_rfl);have c7:=cfr 7 (by kernel_rfl);have c8:=cfr 8 (by kernel_rfl)
 simp only[go_sem, ↓reduceIte,Nat.reduceEqDiff,Nat.reduceAdd,Nat.reduceSub,Nat.reduceLeDiff,reduceCtorEq,b0,b2,b7,b8]at c0 c2 c7 c8
 clear cfr
 obtain⟨sY,DZ,c9,jn,HH⟩:=cI0
 obtain⟨lR,M3⟩:=cI1
 have CN:=(lR X).trans hgX
 have CL:=(lR A).trans Rb
 have yR:=(lR id).trans hid
 by_cases hk:(k:Int)<(I.length:Int)
 ·have gU:∀{e:Env} {gg:Rows} {nx:Nat},(e 11=.int .i64 (IntKind.i64.wrap ((k:Int)+1)))->(∃(sY DZ:Int),e 9=.int .i64 sY/\e 10=.int .i64 DZ/\((sY<0/\∀z,z<(k+1)->¬(0<fx bs f' (I.getD z 0) v/\out (bw bs (I.getD z 0) v)=out v-1))∨∃ed:Nat,ed∈I/\DZ=(ed:Int)/\sY=(bw bs ed v:Int)/\0<fx bs f' ed v/\out (bw bs ed v)=out v-1))->((∀i:Id,gg i=st_b.get i)/\st_b.next<=nx)->∃m0,m0<(I.length)-k/\∃k:Nat,m0=(I.length)-k/\k<=(I.length)/\e 11=.int .i64 (k:Int)/\(∃(sY DZ:Int),e 9=.int .i64 sY/\e 10=.int .i64 DZ/\((sY<0/\∀z,z<k->¬(0<fx bs f' (I.getD z 0) v/\out (bw bs (I.getD z 0) v)=out v-1))∨∃ed:Nat,ed∈I/\DZ=(ed:Int)/\sY=(bw bs ed v:Int)/\0<fx bs f' ed v/\out (bw bs ed v)=out v-1))/\((∀i:Id,gg i=st_b.get i)/\st_b.next<=nx):=fun x1 x2 x3=>⟨_,by omega,k+1,rfl,by omega,(by rw[x1,ax (by omega)]),x2,x3⟩
  have e7:k<I.length:=by omega
  have eJ:(I.map eN)[k]? =some (eN (I.getD k 0)):=getD_map eN e7
  have rU:I.getD k 0∈I:=by rw[List.getD_eq_getElem?_getD,List.getElem?_eq_getElem e7];exact List.getElem_mem e7
  obtain⟨he,pd⟩:=hIm _ rU
  have Nl:=IK cnt bs f' Km (I.getD k 0) v he
  have wD:=kh st_c.get (fun i _=>lR i) (I.getD k 0)
  have hq:=oi ok (v:=v) he
  have OH:=dB (f:=out) hq
  obtain⟨ed,hed⟩:∃ed,ed=I.getD k 0:=⟨_,rfl⟩
  rw[<-hed]at eJ he pd Nl wD hq OH rU
  rw[bq]at OH
  rw[eN]at eJ
  (try((repeat(revert hN;revert N;apply Pn.out));refine wk (tw @nq (tw @c0 (tw @c2 (tw @c7 (tw @c8 (tw @c9 (tw @jn (tw @hk (tw @CN (tw @CL (tw @yR (tw @lk (tw @tL (tw @CV (tw @eJ (tw @pR @aX.eq_1)))))))))))))))) ?_;(repeat(refine Pn.mk ?_;intro N hN))))
  refine .inl ⟨_,ao.x Nl wD,?_⟩
  refine hN _ _ ?_
  clear hN N
  have stay:∀k',k'=k+1->(¬(0<fx bs f' ed v/\out (bw bs ed v)=out v-1))->((sY<0/\∀z,z<k'->¬(0<fx bs f' (I.getD z 0) v/\out (bw bs (I.getD z 0) v)=out v-1))∨∃ed:Nat,ed∈I/\DZ=(ed:Int)/\sY=(bw bs ed v:Int)/\0<fx bs f' ed v/\out (bw bs ed v)=out v-1):=fun k' Fu kZ=>by
   rcases HH with⟨h1,h2⟩|h
   ·refine .inl ⟨h1,fun z hz=>?_⟩
    by_cases CX:z=k
    ·subst CX;rw[<-hed];exact kZ
    ·exact h2 z (by omega)
   ·exact .inr h
  by_cases hr:0<fx bs f' ed v
  ·by_cases OA:out (bw bs ed v)=out v-1
   ·have tk:decide (out (bw bs ed v)=out v-1)=true:=decide_eq_true OA
    have found:∃Pc:Nat,Pc∈I/\(ed:Int)=(Pc:Int)/\(bw bs ed v:Int)=(bw bs Pc v:Int)/\0<fx bs f' Pc v/\out (bw bs Pc v)=out v-1:=⟨ed,rU,rfl,rfl,hr,OA⟩
    by_cases GF:sY<0
    ·(try((repeat(revert hN;revert N;apply Pn.out));refine wk (tw @nq (tw @c0 (tw @c2 (tw @c7 (tw @c8 (tw @c9 (tw @jn (tw @hk (tw @CN (tw @CL (tw @yR (tw @lk (tw @tL (tw @CV (tw @eJ (tw @pR (tw @hr (tw @OH (tw @lQ (tw @rW (tw @tk (tw @GF @aX.eq_1)))))))))))))))))))))) ?_;(repeat(refine Pn.mk ?_;intro N hN))))
     exact gU (sd (tw @nq (tw @c0 (tw @c2 (tw @c7 @c8))))) (⟨_,_,sd @Nat.zero_add,sd @Nat.zero_add,.inr found⟩) (⟨lR,by(try dsimp only);omega⟩)
    ·by_cases dz:(bw bs ed v:Int)<sY
     ·(try((repeat(revert hN;revert N;apply Pn.out));refine wk (tw @nq (tw @c0 (tw @c2 (tw @c7 (tw @c8 (tw @c9 (tw @jn (tw @hk (tw @CN (tw @CL (tw @yR (tw @lk (tw @tL (tw @CV (tw @eJ (tw @pR (tw @hr (tw @OH (tw @lQ (tw @rW (tw @tk (tw @GF (tw @dz @aX.eq_1))))))))))))))))))))))) ?_;(repeat(refine Pn.mk ?_;intro N hN))))
      exact gU (sd (tw @nq (tw @c0 (tw @c2 (tw @c7 @c8))))) (⟨_,_,sd @Nat.zero_add,sd @Nat.zero_add,.inr found⟩) (⟨lR,by(try dsimp only);omega⟩)
     ·(try((repeat(revert hN;revert N;apply Pn.out));refine wk (tw @nq (tw @c0 (tw @c2 (tw @c7 (tw @c8 (tw @c9 (tw @jn (tw @hk (tw @CN (tw @CL (tw @yR (tw @lk (tw @tL (tw @CV (tw @eJ (tw @pR (tw @hr (tw @OH (tw @lQ (tw @rW (tw @tk (tw @GF (tw @dz @aX.eq_1))))))))))))))))))))))) ?_;(repeat(refine Pn.mk ?_;intro N hN))))
      exact gU (sd (tw @nq (tw @c0 (tw @c2 (tw @c7 @c8))))) (⟨sY,DZ,sd @c9,sd @jn,by
       rcases HH with⟨h1,_⟩|h
       ·exact absurd h1 GF
       ·exact .inr h⟩) (⟨lR,by(try dsimp only);omega⟩)
   ·have tk:decide (out (bw bs ed v)=out v-1)=false:=decide_eq_false OA
    (try((repeat(revert hN;revert N;apply Pn.out));refine wk (tw @nq (tw @c0 (tw @c2 (tw @c7 (tw @c8 (tw @c9 (tw @jn (tw @hk (tw @CN (tw @CL (tw @yR (tw @lk (tw @tL (tw @CV (tw @eJ (tw @pR (tw @hr (tw @OH (tw @lQ (tw @rW (tw @tk @aX.eq_1))))))))))))))))))))) ?_;(repeat(refine Pn.mk ?_;intro N hN))))
    exact gU (sd (tw @nq (tw @c0 (tw @c2 (tw @c7 @c8))))) (⟨sY,DZ,sd @c9,sd @jn,stay _ rfl fun h=>OA h.2⟩) (⟨lR,by(try dsimp only);omega⟩)
  ·(try((repeat(revert hN;revert N;apply Pn.out));refine wk (tw @nq (tw @c0 (tw @c2 (tw @c7 (tw @c8 (tw @c9 (tw @jn (tw @hk (tw @CN (tw @CL (tw @yR (tw @lk (tw @tL (tw @CV (tw @eJ (tw @pR (tw @hr @aX.eq_1))))))))))))))))) ?_;(repeat(refine Pn.mk ?_;intro N hN))))
   exact gU (sd (tw @nq (tw @c0 (tw @c2 (tw @c7 @c8))))) (⟨sY,DZ,sd @c9,sd @jn,stay _ rfl fun h=>hr h.1⟩) (⟨lR,by(try dsimp only);omega⟩)
 ·have kW:k=I.length:=by omega
  have SB:∃ed:Nat,ed∈I/\DZ=(ed:Int)/\sY=(bw bs ed v:Int)/\0<fx bs f' ed v/\out (bw bs ed v)=out v-1:=by
   rcases HH with⟨h1,h2⟩|h
   ·exfalso
    obtain⟨ed,he,hq⟩:=LD
    obtain⟨z,hz,rfl⟩:=List.getElem_of_mem he
    refine h2 z (by omega) ?_
    rw[List.getD_eq_getElem?_getD,List.getElem?_eq_getElem hz];exact hq
   ·exact h
  obtain⟨ed,rU,rfl,rfl,hr,OA⟩:=SB
  obtain⟨he,pd⟩:=hIm _ rU
  (try((repeat(revert hN;revert N;apply Pn.out));refine wk (tw @nq (tw @c0 (tw @c2 (tw @c7 (tw @c8 (tw @c9 (tw @jn (tw @hk (tw @CN (tw @CL (tw @yR (tw @lk (tw @tL (tw @CV (tw @pR @aX.eq_1))))))))))))))) ?_;(repeat(refine Pn.mk ?_;intro N hN))))
  refine .inr (aV _ _ _ _ _ (fun r σ1 hq=>?_) (NI cnt bs f' Km ed v he X A F ⟨st_c.get,_⟩ nb (hN1.frame (fun i _=>lR i) (Nat.le_refl _)) (by(try dsimp only);omega)))
  obtain⟨QY,lz,uJ⟩:=hq
  (try dsimp only at lz uJ)
  refine hN _ _ ?_
  clear hN N
  (try((repeat(revert hN;revert N;apply Pn.out));refine wk (tw @nq (tw @c0 (tw @c2 (tw @c7 (tw @c8 @c9))))) ?_;(repeat(refine Pn.mk ?_;intro N hN))))
  refine⟨_,?_,bw bs ed v,sZ bs f' ed v,rfl,oi ok he,by omega,sd @Nat.zero_add,hW.step he pd hr OA,QY,fun i hi hF=>by rw[uJ i hF,lR i,jq i hi hF],by(try dsimp only);omega⟩
  omega
end Go.Proofs.YtgoelphibofcmaaGreat.V

namespace Go.Proofs.YtgoelphibofcmaaGreat.V
open Go.RowKit
attribute [local irreducible] dD wpOps gI Call
attribute [local go_sem] aK fW eU gE gy cE upd ck K.av cN AV.cells AV.cell rowOf rowsOf part ld rowAt bB bY dO ev iI bK db eI gr e8 dx eB cZ cY ea ec bQ aY cQ bP cU cR ez eC eA cP bV da ew bL aL cW cF iH bz cK bR aU dh aT dP AV.undef bF bG eh eu dX dY cI eH eK cD eE eD cV cX List.getD_cons_zero List.getD_cons_succ List.getD_nil List.all_cons List.all_nil Bool.and_true Bool.true_and Bool.and_self Bool.not_true Bool.not_false Option.map_some Option.map_none Option.bind_some Option.bind_none List.length_cons List.length_nil List.take_succ_cons List.take_zero List.take_nil List.drop_succ_cons List.drop_zero List.drop_nil List.head?_cons List.map_cons List.map_nil List.getElem?_cons_zero List.getElem?_cons_succ List.cons_append List.nil_append List.append_nil List.length_map List.set_cons_zero List.set_cons_succ Nat.reduceMul eq_self Int.toNat_natCast Int.natCast_nonneg and_self true_and and_true decide_true decide_false Bool.false_eq_true Nat.zero_add Nat.add_zero List.contains_cons List.contains_nil Bool.or_false Bool.false_or beq_self_eq_true Nat.reduceBEq ne_eq not_true_eq_false not_false_eq_true Id.mk.injEq false_and and_false Nat.reduceLT Int.reduceLE Int.reduceLT Int.reduceToNat Int.reduceNeg Int.reduceAdd Nat.le_refl List.length_append beq_true beq_false Bool.not_eq_eq_eq_not or_false false_or dQ aj aq aH bd bE cm aW bc aN bf cL bU
def so (P:Program) (f:Nat) (args:List AV) (R:AV->Prop):Prop:=∀σ:ar,Call P f args ⟨V.ro σ.get,σ.next⟩ fun r0 σ'=>∃r',V.fz σ'.get 6 r0=some r'/\R r'
theorem CB {P:Program} {f:Nat} {args:List AV} {g:Rows} {n:Nat} {R:AV->Prop} (h:Sound P f args ⟨V.ro g,n⟩ fun r0 σ'=>∃r',V.fz σ'.get 6 r0=some r'/\R r'):Sound P f args ⟨g,n⟩ fun r σ'=>R r/\σ'=⟨g,n⟩:=by
 intro hs D ι w vs S U A
 refine(Ab (g0:=g) (K:=R) h (fun _ _ h=>h) S U A).mono ?_
 rintro e w' ⟨r,D',u,rfl,hR,T,S',hr⟩
 exact⟨r,g,n,D',ι,u,rfl,⟨hR,rfl⟩,T,S',U,Nat.le_refl _,hr⟩
theorem so.x {P:Program} (hm:P.follows .mixedOrders=true) {f:Nat} {args:List AV} {R:AV->Prop} (h:so P f args R) {σ:ar}:Call P f args σ fun r σ'=>R r/\σ'=σ:=
 gz (CB (fR hm (h σ)))
theorem so.body {P:Program} {f:Nat} {args:List AV} {R:AV->Prop} {nt na:Nat} {body:VC} {res:List ni} (hf:ns P f=some ⟨nt,na,body,res⟩) (ha:na=args.length) (h:(∀a∈args,dZ a)->∀σ:ar,dD (Call P) body (kb res fun r0 σ'=>∃r',V.fz σ'.get 6 r0=some r'/\R r') (ck args) ⟨V.ro σ.get,σ.next⟩):so P f args R:=fun σ=>lJ hf ha fun hl=>h hl σ
theorem KE {g:Rows} {rows:List (List AV)} {xs:List (List Nat)} {ids:List Id} (n:Nat) (h:eR Oo g rows xs ids):dK g (n+2) rows=some (xs.map fun l=>[NR l]):=by
 induction h with
 |nil=>rw[dK];rfl
 |cons h1 _ ih=>
  rename_i x _ _ _ _ _
  rcases h1 with⟨h0,h1,_⟩|⟨id,h1,h0,h2,_⟩
  ·subst h0 h1;rw[dK,ih,aj,aq,aW];rfl
  ·have fZ:x≠[]:=by rintro rfl;simp at h0
   subst h1
   rw[dK,ih,aj,aq,ib (e:=eN) (sz:=1) h2 rfl fun a=>fzN _ n a]
   simp[NR,fZ]
theorem nG.fz0 {cnt:Nat} {bs:List PB} {f:Nat->Int} {X A F:Id} {g:Rows} {nx:Nat} (h:nG cnt bs f X A F g nx):V.fz g 5 (.ptr X 0 0)=some (.cr (fF cnt bs f)):=by
 have hf:V.fz g 4 (.own F 0 bs.length)=some (.sl (dG f bs.length)):=by
  rw[gT]
  simp only[h.f,if_true]
  rw[if_pos (by rw[dt];omega),List.drop_zero,List.take_of_length_le (by rw[dt];omega),zF];rfl
 have ha:V.fz g 4 (.own A 0 cnt)=some (.sl (pD cnt bs bs.length)):=by
  obtain⟨rows,ids,h1,h2,_,_⟩:=h.a
  have hl:=h2.len
  rw[jh]at hl
  rw[gT]
  simp only[h1,if_true]
  rw[if_pos (by omega),List.drop_zero,List.take_of_length_le (by omega),KE 1 h2]
  simp[k6,pD]
 rw[bf]
 simp only[h.x,if_true,List.getElem?_cons_zero,List.drop_zero,aX,aj,aq,aH,cm,ha,hf,Option.map_some,fF]
theorem D5 {S:Nat->Bool}:∀bs:List PB,(∀b∈bs,b.s<=4)->iS S bs<=4*bs.length
 |[],_=>by simp[iS]
 |b::bs,h=>by
  rw[rL]
  have:=D5 (S:=S) bs fun x hx=>h x (List.mem_cons_of_mem _ hx)
  have:=h b (by simp)
  simp only[List.length_cons]
  split<;>omega
theorem jM.zero {bs:List PB} {x y:Nat} (h:∀e,e<bs.length->0<=(bH bs e).s/\(bH bs e).s<=4):jM bs (fun _=>0) x y 0:=
 ⟨fun i hi=>by have:=h i hi;omega,fun S _ _=>jG fun i _=>by simp⟩
theorem JO {bs:List PB} {b:PB} (h:b∈bs):∃e,e<bs.length/\bH bs e=b:=by
 obtain⟨e,he,rfl⟩:=List.getElem_of_mem h
 exact⟨e,he,by simp[bH,List.getD_eq_getElem?_getD,he]⟩
theorem FO (cnt:Nat) (hn:cnt<=1048576) (bs:List PB) (ok:mN cnt bs) (mo:bs.length<=1048576) (dc:∀e,e<bs.length->0<=(bH bs e).s/\(bH bs e).s<=4) (x y:Nat) (hx:x<cnt) (hy:y<cnt) (LQ:x≠y):
  so Tryz.prog 218 [.int .i64 cnt,.sl (bs.map ay),.int .i64 x,.int .i64 y] fun r=>∃f val,r=.gx [.cr (fF cnt bs f),.int .i64 val]/\jM bs f x y val/\∃S:Nat->Bool,S x=true/\S y=false/\val=iS S bs:=by
 refine so.body eG rfl fun hl σ=>?_
 clear hl
 (try((repeat(revert hN;revert N;apply Pn.out));refine wk @Nat.zero_add ?_;(repeat(refine Pn.mk ?_;intro N hN))))
 refine .inr (aV _ _ _ _ _ (fun r σ1 hq=>?_) (Ib cnt hn bs ok mo _))
 obtain⟨X,A,F,rfl,hX,hS⟩:=hq
 refine hN _ _ ?_
 clear hN N
 have hS0:∀f val,jM bs f x y val->val<=iS (fun v=>decide (v=x)) bs:=fun f val hf=>hf.bound (decide_eq_true rfl) (decide_eq_false fun h=>LQ h.symm)
 have htot:=D5 (S:=fun v=>decide (v=x)) bs fun b hb=>by
  obtain⟨e,he,rfl⟩:=JO hb
  exact(dc e he).2
 generalize iS (fun v=>decide (v=x)) bs=T at *
 (try((repeat(revert hN;revert N;apply Pn.out));refine wk @Nat.zero_add ?_;(repeat(refine Pn.mk ?_;intro N hN))))
 refine aJ (fun m env st=>∃(f:Nat->Int) (val:Int),m=(T-val).toNat/\0<=val/\env 10=.ptr X 0 0/\env 11=.int .i64 val/\jM bs f x y val/\nG cnt bs f X A F st.get σ1.next/\σ1.next<=st.next) T.toNat ⟨_,0,by simp,by omega,by(simp only[go_sem, ↓reduceIte,Nat.reduceEqDiff,Nat.reduceAdd,Nat.reduceSub,Nat.reduceLeDiff,reduceCtorEq]),by(simp only[go_sem, ↓reduceIte,Nat.reduceEqDiff,Nat.reduceAdd,Nat.reduceSub,Nat.reduceLeDiff,reduceCtorEq]),jM.zero dc,hS.frame (fun i hi=>rfl) (Nat.le_refl _),by(try dsimp only);omega⟩ ?_
 rintro m env_b st_b ⟨f,val,rfl,pU,b10,DX,hf,hN1,hle⟩ ej
 have b2:=ej 2 (by kernel_rfl)
 have b3:=ej 3 (by kernel_rfl)
 simp only[go_sem, ↓reduceIte,Nat.reduceEqDiff,Nat.reduceAdd,Nat.reduceSub,Nat.reduceLeDiff,reduceCtorEq]at b2 b3
 clear ej
 (try((repeat(revert hN;revert N;apply Pn.out));refine wk (tw @b2 (tw @b3 @b10)) ?_;(repeat(refine Pn.mk ?_;intro N hN))))
 refine .inr (aV _ _ _ _ _ (fun r σ2 hq=>?_) (ME cnt hn bs ok mo dc f x y hx hy LQ val hf X A F ⟨st_b.get,_⟩ σ1.next hN1 (by(try dsimp only);omega)))
 obtain⟨b,f',rfl,QY,lz,_,kZ,Tj⟩:=hq
 (try dsimp only at lz)
 refine hN _ _ ?_
 clear hN N
 cases b with
 |true=>
  have jI:=Tj rfl
  have Lx:=hS0 _ _ hf
  have HF:=hS0 _ _ jI
  have hw:IntKind.i64.wrap (val+1)=val+1:=bp (by omega)
  (try((repeat(revert hN;revert N;apply Pn.out));refine wk (tw @b10 (tw @DX @hw)) ?_;(repeat(refine Pn.mk ?_;intro N hN))))
  exact⟨_,by omega,f',val+1,rfl,by omega,sd @b10,sd (tw @DX @hw),jI,QY,by(try dsimp only);omega⟩
 |false=>
  obtain⟨rfl,S,h1,h2,h3⟩:=kZ rfl
  (try((repeat(revert hN;revert N;apply Pn.out));refine wk (tw @b10 @DX) ?_;(repeat(refine Pn.mk ?_;intro N hN))))
  have hz:=QY.fz0
  exact⟨[.ptr X 0 0,.int .i64 val],sd @Nat.zero_add,.gx [.cr (fF cnt bs f'),.int .i64 val],by simp only[eT,bU,aj,aq,hz,aH,Option.map_some],f',val,rfl,hf,S,h1,h2,h3⟩
theorem FP (cnt:Nat) (hn:cnt<=1048576) (bs:List PB) (ok:mN cnt bs) (mo:bs.length<=1048576) (f:Nat->Int) (hs:Small bs f) (y:Nat) (hy:y<cnt):
  lI Tryz.prog 219 [.cr (fF cnt bs f),.int .i64 y] fun r=>∃l:List Nat,r=.sl (l.map eN)/\l.length<=cnt:=by
 refine lI.body eG rfl fun hl n0=>?_
 clear hl
 have hz:∀g:Rows,cG (dQ g) 6 [.cr (fF cnt bs f),.int .i64 (y:Int)]=some [.cr (fF cnt bs f),.int .i64 y]:=fun g=>by simp only[aj,aq,aN,aH,Option.map_some]
 (try((repeat(revert hN;revert N;apply Pn.out));refine wk @Nat.zero_add ?_;(repeat(refine Pn.mk ?_;intro N hN))))
 refine .inr (aV _ _ _ _ _ (fun r σ1 hq=>?_) ((EI cnt hn bs ok mo f hs y hy).x mixed (hz _)))
 obtain⟨⟨out,rfl,Np⟩,rfl⟩:=hq
 refine hN _ _ ?_
 clear hN N
 (try((repeat(revert hN;revert N;apply Pn.out));refine wk @fF.eq_1 ?_;(repeat(refine Pn.mk ?_;intro N hN))))
 refine aJ (fun n env st=>∃k:Nat,n=(cnt)-k/\k<=(cnt)/\env 7=.int .i64 (k:Int)/\(∃(o:Id) (l:List Nat),env 6=.own o 0 l.length/\st.get o=some ⟨true,1,l.map eN⟩/\o.aZ<st.next/\l.length<=k)) (cnt) ⟨0,by omega,by omega,sl @fF.eq_1,⟨⟨219002000,n0+1+1+1⟩,[],by(simp only[go_sem, ↓reduceIte,Nat.reduceEqDiff,Nat.reduceAdd,Nat.reduceSub,Nat.reduceLeDiff,reduceCtorEq])<;>rfl,by(simp only[go_sem, ↓reduceIte,Nat.reduceEqDiff,Nat.reduceAdd,Nat.reduceSub,Nat.reduceLeDiff,reduceCtorEq])<;>rfl,by(try dsimp only);omega,by simp⟩⟩ ?_
 rintro n_a env_a st_a ⟨k,rfl,ale,a7,nj⟩ dv
 have a0:=dv 0 (by kernel_rfl);have a5:=dv 5 (by kernel_rfl)
 simp only[go_sem, ↓reduceIte,Nat.reduceEqDiff,Nat.reduceAdd,Nat.reduceSub,Nat.reduceLeDiff,reduceCtorEq,fF]at a0 a5
 clear dv
 obtain⟨o,l,a6,ag,lQ,Nb⟩:=nj
 have pU:=dw lQ
 have pS:(l.map eN).length=l.length:=by simp
 by_cases hk:(k:Int)<(cnt:Int)
 ·have cw:∀{e:Env} {gg:Rows} {nx:Nat},(e 7=.int .i64 (IntKind.i64.wrap ((k:Int)+1)))->(∃(o:Id) (l:List Nat),e 6=.own o 0 l.length/\gg o=some ⟨true,1,l.map eN⟩/\o.aZ<nx/\l.length<=(k+1))->∃m0,m0<(cnt)-k/\∃k:Nat,m0=(cnt)-k/\k<=(cnt)/\e 7=.int .i64 (k:Int)/\(∃(o:Id) (l:List Nat),e 6=.own o 0 l.length/\gg o=some ⟨true,1,l.map eN⟩/\o.aZ<nx/\l.length<=k):=fun x1 x2=>⟨_,by omega,k+1,rfl,by omega,(by rw[x1,ax (by omega)]),x2⟩
  have uP:=dB (f:=out) (show k<cnt by omega)
  rw[bq]at uP
  have e1:l.length+1<=16777216:=by omega
  by_cases h0:0<=out k
  ·(try((repeat(revert hN;revert N;apply Pn.out));refine wk (tw @a7 (tw @a0 (tw @a5 (tw @a6 (tw @ag (tw @pU (tw @hk (tw @uP (tw @h0 (tw @e1 (tw @pS @fF.eq_1))))))))))) ?_;(repeat(refine Pn.mk ?_;intro N hN))))
   exact cw (sd (tw @a7 (tw @a0 (tw @a5 @fF.eq_1)))) (⟨⟨219007003,st_a.next+1+1⟩,l++[k],by rw[List.length_append];simp only[go_sem, ↓reduceIte,Nat.reduceEqDiff,Nat.reduceAdd,Nat.reduceSub,Nat.reduceLeDiff,reduceCtorEq,List.length_cons,List.length_nil],by rw[List.map_append,List.map_cons,List.map_nil];simp only[go_sem, ↓reduceIte,Nat.reduceEqDiff,Nat.reduceAdd,Nat.reduceSub,Nat.reduceLeDiff,reduceCtorEq,eN],by(try dsimp only);omega,by simp;omega⟩)
  ·(try((repeat(revert hN;revert N;apply Pn.out));refine wk (tw @a7 (tw @a0 (tw @a5 (tw @a6 (tw @ag (tw @pU (tw @hk (tw @uP (tw @h0 (tw @pS @fF.eq_1)))))))))) ?_;(repeat(refine Pn.mk ?_;intro N hN))))
   exact cw (sd (tw @a7 (tw @a0 (tw @a5 @fF.eq_1)))) (⟨o,l,sd @a6,sd @ag,by(try dsimp only);omega,by omega⟩)
 ·(try((repeat(revert hN;revert N;apply Pn.out));refine wk (tw @a7 (tw @a0 (tw @a5 (tw @a6 (tw @hk @fF.eq_1))))) ?_;(repeat(refine Pn.mk ?_;intro N hN))))
  have rS:fY st_a.get 6 (.own o 0 l.length)=some (.sl (l.map eN)):=gu ag rfl fun b=>MB _ 4 b
  exact⟨_,rfl,_,by simp only[go_sem, ↓reduceIte,Nat.reduceEqDiff,Nat.reduceAdd,Nat.reduceSub,Nat.reduceLeDiff,reduceCtorEq,eT];exact rS,l,rfl,by omega⟩
end Go.Proofs.YtgoelphibofcmaaGreat.V

namespace Go.Proofs.YtgoelphibofcmaaGreat.V
open Go.RowKit
attribute [local irreducible] dD wpOps gI Call
attribute [local go_sem] aK fW eU gE gy cE upd ck K.av cN AV.cells AV.cell rowOf rowsOf part ld rowAt bB bY dO ev iI bK db eI gr e8 dx eB cZ cY ea ec bQ aY cQ bP cU cR ez eC eA cP bV da ew bL aL cW cF iH bz cK bR aU dh aT dP AV.undef bF bG eh eu dX dY cI eH eK cD eE eD cV cX List.getD_cons_zero List.getD_cons_succ List.getD_nil List.all_cons List.all_nil Bool.and_true Bool.true_and Bool.and_self Bool.not_true Bool.not_false Option.map_some Option.map_none Option.bind_some Option.bind_none List.length_cons List.length_nil List.take_succ_cons List.take_zero List.take_nil List.drop_succ_cons List.drop_zero List.drop_nil List.head?_cons List.map_cons List.map_nil List.getElem?_cons_zero List.getElem?_cons_succ List.cons_append List.nil_append List.append_nil List.length_map List.set_cons_zero List.set_cons_succ Nat.reduceMul eq_self Int.toNat_natCast Int.natCast_nonneg and_self true_and and_true decide_true decide_false Bool.false_eq_true Nat.zero_add Nat.add_zero List.contains_cons List.contains_nil Bool.or_false Bool.false_or beq_self_eq_true Nat.reduceBEq ne_eq not_true_eq_false not_false_eq_true Id.mk.injEq false_and and_false Nat.reduceLT Int.reduceLE Int.reduceLT Int.reduceToNat Int.reduceNeg Int.reduceAdd Nat.le_refl List.length_append beq_true beq_false Bool.not_eq_eq_eq_not or_false false_or dQ aj aq aH bd bE cm aW bc aN bf cL bU
theorem Bd (v1 v2:Int) (l1 l2:List Nat) (h1:l1.length<=1048576) (h2:l2.length<=1048576):
  lI Tryz.prog 220 [.int .i64 v1,.sl (l1.map eN),.int .i64 v2,.sl (l2.map eN)] fun r=>∃b,r=.bool b/\(v1<v2->b=true)/\(v2<v1->b=false):=by
 refine lI.body eG rfl fun hl n0=>?_
 clear hl
 have ret:∀{t:Nat} {env:Env} {σ:ar} {b:Bool} {x:Ex},(x=.ret∨x=.normal)->env t=.bool b->((v1<v2->b=true)/\(v2<v1->b=false))->kb [.tmp t] (fun r0 σ'=>∃r',fY σ'.get 6 r0=some r'/\∃b,r'=.bool b/\(v1<v2->b=true)/\(v2<v1->b=false)) x env σ:=by
  intro t env σ b x hx he hb
  have:∃vs,e5 env σ.get [.tmp t]=some vs/\∃r',fY σ.get 6 (eT vs)=some r'/\∃b,r'=.bool b/\(v1<v2->b=true)/\(v2<v1->b=false):=⟨[env t],rfl,.bool b,by rw[he];exact dU _ _ _,b,rfl,hb⟩
  rcases hx with rfl|rfl
  ·exact this
  ·exact this
 have m1:(l1.map eN).length=l1.length:=by simp
 have m2:(l2.map eN).length=l2.length:=by simp
 by_cases hv:v1=v2
 ·have hd:decide (v1=v2)=true:=decide_eq_true hv
  by_cases Nb:(l1.length:Int)=(l2.length:Int)
  ·have tk:decide ((l1.length:Int)=(l2.length:Int))=true:=decide_eq_true Nb
   have Px:decide (l1.length=l2.length)=true:=decide_eq_true (by omega)
   (try((repeat(revert hN;revert N;apply Pn.out));refine wk (tw @hd (tw @tk (tw @Px (tw @m1 @m2)))) ?_;(repeat(refine Pn.mk ?_;intro N hN))))
   refine aJ (fun n env st=>∃k:Nat,n=(l1.length)-k/\k<=(l1.length)/\env 9=.int .i64 (k:Int)) (l1.length) ⟨0,by omega,by omega,sl @Nat.zero_add⟩ ?_
   rintro n_a env_a st_a ⟨k,rfl,ale,a9⟩ dv
   have a1:=dv 1 (by kernel_rfl);have a3:=dv 3 (by kernel_rfl)
   simp only[go_sem, ↓reduceIte,Nat.reduceEqDiff,Nat.reduceAdd,Nat.reduceSub,Nat.reduceLeDiff,reduceCtorEq]at a1 a3
   clear dv
   by_cases hk:(k:Int)<(l1.length:Int)
   ·have cw:∀{e:Env},(e 9=.int .i64 (IntKind.i64.wrap ((k:Int)+1)))->∃m0,m0<(l1.length)-k/\∃k:Nat,m0=(l1.length)-k/\k<=(l1.length)/\e 9=.int .i64 (k:Int):=fun x1=>⟨_,by omega,k+1,rfl,by omega,(by rw[x1,ax (by omega)])⟩
    have g1:(l1.map eN)[k]? =some (eN (l1.getD k 0)):=getD_map eN (by omega)
    have g2:(l2.map eN)[k]? =some (eN (l2.getD k 0)):=getD_map eN (by omega)
    rw[eN]at g1 g2
    by_cases he:((l1.getD k 0:Nat):Int)=((l2.getD k 0:Nat):Int)
    ·have HK:decide (((l1.getD k 0:Nat):Int)=((l2.getD k 0:Nat):Int))=true:=decide_eq_true he
     have Sv:decide (l1.getD k 0=l2.getD k 0)=true:=decide_eq_true (by omega)
     (try((repeat(revert hN;revert N;apply Pn.out));refine wk (tw @a9 (tw @a1 (tw @a3 (tw @hk (tw @m1 (tw @g1 (tw @g2 (tw @HK @Sv)))))))) ?_;(repeat(refine Pn.mk ?_;intro N hN))))
     exact cw (sd (tw @a9 (tw @a1 @a3)))
    ·have HK:decide (((l1.getD k 0:Nat):Int)=((l2.getD k 0:Nat):Int))=false:=decide_eq_false he
     have Sv:decide (l1.getD k 0=l2.getD k 0)=false:=decide_eq_false (by omega)
     (try((repeat(revert hN;revert N;apply Pn.out));refine wk (tw @a9 (tw @a1 (tw @a3 (tw @hk (tw @m1 (tw @g1 (tw @g2 (tw @HK @Sv)))))))) ?_;(repeat(refine Pn.mk ?_;intro N hN))))
     exact ret (.inl rfl) (by simp only[go_sem, ↓reduceIte,Nat.reduceEqDiff,Nat.reduceAdd,Nat.reduceSub,Nat.reduceLeDiff,reduceCtorEq];rfl) ⟨fun h=>by omega,fun h=>by omega⟩
   ·(try((repeat(revert hN;revert N;apply Pn.out));refine wk (tw @a9 (tw @a1 (tw @a3 (tw @hk @m1)))) ?_;(repeat(refine Pn.mk ?_;intro N hN))))
    exact ret (b:=false) (.inl rfl) (sd @Nat.zero_add) ⟨fun h=>by omega,fun h=>by omega⟩
  ·have tk:decide ((l1.length:Int)=(l2.length:Int))=false:=decide_eq_false Nb
   have Px:decide (l1.length=l2.length)=false:=decide_eq_false (by omega)
   (try((repeat(revert hN;revert N;apply Pn.out));refine wk (tw @hd (tw @tk (tw @Px (tw @m1 @m2)))) ?_;(repeat(refine Pn.mk ?_;intro N hN))))
   exact ret (.inl rfl) (by simp only[go_sem, ↓reduceIte,Nat.reduceEqDiff,Nat.reduceAdd,Nat.reduceSub,Nat.reduceLeDiff,reduceCtorEq];rfl) ⟨fun h=>by omega,fun h=>by omega⟩
 ·have hd:decide (v1=v2)=false:=decide_eq_false hv
  (try((repeat(revert hN;revert N;apply Pn.out));refine wk @hd ?_;(repeat(refine Pn.mk ?_;intro N hN))))
  exact ret (b:=decide (v1<v2)) (.inl rfl) (sd @Nat.zero_add) ⟨fun h=>decide_eq_true h,fun h=>decide_eq_false (by omega)⟩
def tY (bs:List PB) (cnt:Nat) (jb:Int) (k:Nat):Prop:=(k=1/\jb= -1)∨(0<=jb/\(∀z,1<=z->z<k->∀S:Nat->Bool,S 0=true->S z=false->jb<=iS S bs)/\∃S:Nat->Bool,S 0=true/\(∃z,z<cnt/\S z=false)/\jb=iS S bs)
theorem jM.nn {bs:List PB} {val:Int} {S:Nat->Bool} (dc:∀e,e<bs.length->0<=(bH bs e).s/\(bH bs e).s<=4) (h:val=iS S bs):0<=val:=by
 rw[h,uq]
 have:=qZ (f:=fun _=>0) (g:=fun i=>if S (bH bs i).a=S (bH bs i).b then 0 else(bH bs i).s) (n:=bs.length) fun i hi=>by
  have:=dc i hi
  split<;>omega
 rw[jG fun _ _=>rfl]at this
 exact this
theorem tY.done {bs:List PB} {cnt:Nat} {jb:Int} (hc:2<=cnt) (h:tY bs cnt jb cnt) (t:Int):t<=jb↔kj cnt bs t:=by
 rcases h with⟨h,_⟩|⟨_,h1,S,h2,⟨z,hz,kh⟩,h3⟩
 ·omega
 ·constructor
  ·intro ht S h0 ⟨y,hy,hy2⟩
   have:y≠0:=by rintro rfl;rw[h0]at hy2;cases hy2
   have:=h1 y (by omega) hy S h0 hy2
   omega
  ·intro hH
   rw[h3];exact hH S h2 ⟨z,hz,kh⟩
theorem yZ (cnt:Nat) (h2:2<=cnt) (hn:cnt<=1048576) (bs:List PB) (ok:mN cnt bs) (mo:bs.length<=1048576) (dc:∀e,e<bs.length->0<=(bH bs e).s/\(bH bs e).s<=4):
  so Tryz.prog 194 [.int .i64 cnt,.sl (bs.map ay)] fun r=>∃jb p,r=.gx [.int .i64 jb,p]/\∀t:Int,t<=jb↔kj cnt bs t:=by
 refine so.body eG rfl fun hl σ=>?_
 clear hl
 (try((repeat(revert hN;revert N;apply Pn.out));refine wk @Nat.zero_add ?_;(repeat(refine Pn.mk ?_;intro N hN))))
 have z0:∀(g:Rows) (id:Id),g id=some ⟨true,1,[]⟩->V.fz (dQ g) 6 (.own id 0 0)=some (.sl (([]:List Nat).map eN))/\V.fz g 5 (.own id 0 0)=some (.sl (([]:List Nat).map eN)):=fun g id h=>by
  have h':dQ g id=some ⟨true,1,[]⟩:=by simp[dQ,h]
  constructor
  ·rw[gT];simp only[h',if_true];rw[if_pos (by simp)];simp[nV]
  ·rw[gT];simp only[h,if_true];rw[if_pos (by simp)];simp[nV]
 refine aJ (fun m env st=>∃(k:Nat) (jb:Int) (l:List Nat) (p:AV),m=cnt-k/\1<=k/\k<=cnt/\env 8=.int .i64 (k:Int)/\env 6=.int .i64 jb/\env 7=p/\V.fz (dQ st.get) 6 p=some (.sl (l.map eN))/\V.fz st.get 5 p=some (.sl (l.map eN))/\l.length<=cnt/\tY bs cnt jb k) (cnt-1) ⟨1,-1,[],.own ⟨194002000,σ.next+1+1⟩ 0 0,rfl,by omega,by omega,by(simp only[go_sem, ↓reduceIte,Nat.reduceEqDiff,Nat.reduceAdd,Nat.reduceSub,Nat.reduceLeDiff,reduceCtorEq])<;>rfl,by(simp only[go_sem, ↓reduceIte,Nat.reduceEqDiff,Nat.reduceAdd,Nat.reduceSub,Nat.reduceLeDiff,reduceCtorEq])<;>rfl,by(simp only[go_sem, ↓reduceIte,Nat.reduceEqDiff,Nat.reduceAdd,Nat.reduceSub,Nat.reduceLeDiff,reduceCtorEq])<;>rfl,(z0 _ _ (sd @Nat.zero_add)).1,(z0 _ _ (sd @Nat.zero_add)).2,by simp,.inl ⟨rfl,rfl⟩⟩ ?_
 rintro m env_b st_b ⟨k,jb,l,p,rfl,wC,uM,b8,b6,b7,tM,kh,hl,hB⟩ ej
 have b0:=ej 0 (by kernel_rfl)
 have b1:=ej 1 (by kernel_rfl)
 simp only[go_sem, ↓reduceIte,Nat.reduceEqDiff,Nat.reduceAdd,Nat.reduceSub,Nat.reduceLeDiff,reduceCtorEq]at b0 b1
 clear ej z0
 by_cases hk:(k:Int)<(cnt:Int)
 ·have e7:k<cnt:=by omega
  have hFl:=FO cnt hn bs ok mo dc 0 k (by omega) e7 (by omega)
  rw[show(((0:Nat):Int))=0 from rfl]at hFl
  (try((repeat(revert hN;revert N;apply Pn.out));refine wk (tw @b0 (tw @b1 (tw @b6 (tw @b7 (tw @b8 @hk))))) ?_;(repeat(refine Pn.mk ?_;intro N hN))))
  refine .inr (aV _ _ _ _ _ (fun r σ1 hq=>?_) (hFl.x mixed))
  obtain⟨⟨f,val,rfl,hf,S,MX,MY,Q0⟩,rfl⟩:=hq
  refine hN _ _ ?_
  clear hN N
  have Km:=vY dc hf.le
  have rV:=jM.nn (val:=val) dc Q0
  (try((repeat(revert hN;revert N;apply Pn.out));refine wk (tw @b0 (tw @b1 (tw @b6 (tw @b7 @b8)))) ?_;(repeat(refine Pn.mk ?_;intro N hN))))
  refine .inr (aV _ _ _ _ _ (fun r σ1 hq=>?_) ((FP cnt hn bs ok mo f Km k e7).x mixed (by simp only[aj,aq,aN,aH,Option.map_some])))
  obtain⟨⟨l',rfl,JB⟩,rfl⟩:=hq
  refine hN _ _ ?_
  clear hN N
  have hw:IntKind.i64.wrap ((k:Int)+1)=((k+1:Nat):Int):=ax (by omega)
  have Qw:(∀z,1<=z->z<k->∀S:Nat->Bool,S 0=true->S z=false->val<=iS S bs)->tY bs cnt val (k+1):=fun h=>.inr ⟨rV,fun z tM kh S' h0 h1=>by
   by_cases wD:z=k
   ·subst wD;exact hf.bound h0 h1
   ·exact h z tM (by omega) S' h0 h1,S,MX,⟨k,e7,MY⟩,Q0⟩
  by_cases jQ:jb<0
  ·have AF:k=1:=by
    rcases hB with⟨h,_⟩|⟨h,_⟩
    ·exact h
    ·omega
   (try((repeat(revert hN;revert N;apply Pn.out));refine wk (tw @b0 (tw @b1 (tw @b6 (tw @b7 (tw @b8 (tw @jQ @hw)))))) ?_;(repeat(refine Pn.mk ?_;intro N hN))))
   refine⟨_,?_,k+1,val,l',.sl (l'.map eN),rfl,by omega,by omega,sd (tw @b8 @hw),sd @Nat.zero_add,sd @Nat.zero_add,cm _ _ _,cm _ _ _,JB,Qw fun z h1 h2=>by omega⟩
   omega
  ·have AF:(∀z,1<=z->z<k->∀S:Nat->Bool,S 0=true->S z=false->jb<=iS S bs)/\∃S:Nat->Bool,S 0=true/\(∃z,z<cnt/\S z=false)/\jb=iS S bs:=by
    rcases hB with⟨_,h⟩|⟨_,h⟩
    ·omega
    ·exact h
   (try((repeat(revert hN;revert N;apply Pn.out));refine wk (tw @b0 (tw @b1 (tw @b6 (tw @b7 (tw @b8 (tw @jQ @hw)))))) ?_;(repeat(refine Pn.mk ?_;intro N hN))))
   refine .inr (aV _ _ _ _ _ (fun r σ1 hq=>?_) ((Bd val jb l' l (by omega) (by omega)).x mixed (by simp only[aj,aq,cm,aH,tM,Option.map_some])))
   obtain⟨⟨b,rfl,Lx,HF⟩,rfl⟩:=hq
   refine hN _ _ ?_
   clear hN N
   cases b with
   |true=>
    have OP:val<=jb:=by
     rcases Int.lt_or_le jb val with h|h
     ·exact absurd (HF h) (by simp)
     ·exact h
    (try((repeat(revert hN;revert N;apply Pn.out));refine wk (tw @b0 (tw @b1 (tw @b6 (tw @b7 (tw @b8 @hw))))) ?_;(repeat(refine Pn.mk ?_;intro N hN))))
    refine⟨_,?_,k+1,val,l',.sl (l'.map eN),rfl,by omega,by omega,sd (tw @b8 @hw),sd @Nat.zero_add,sd @Nat.zero_add,cm _ _ _,cm _ _ _,JB,Qw fun z h1 h2 S' h3 h4=>by have:=AF.1 z h1 h2 S' h3 h4;omega⟩
    omega
   |false=>
    have OP:jb<=val:=by
     rcases Int.lt_or_le val jb with h|h
     ·exact absurd (Lx h) (by simp)
     ·exact h
    (try((repeat(revert hN;revert N;apply Pn.out));refine wk (tw @b0 (tw @b1 (tw @b6 (tw @b7 (tw @b8 @hw))))) ?_;(repeat(refine Pn.mk ?_;intro N hN))))
    refine⟨_,?_,k+1,jb,l,p,rfl,by omega,by omega,sd (tw @b8 @hw),sd @b6,sd @b7,tM,kh,hl,.inr ⟨by omega,fun z h1 h2 S' h3 h4=>?_,AF.2⟩⟩
    ·omega
    ·by_cases wD:z=k
     ·subst wD;have:=hf.bound h3 h4;omega
     ·exact AF.1 z h1 (by omega) S' h3 h4
 ·have kW:k=cnt:=by omega
  (try((repeat(revert hN;revert N;apply Pn.out));refine wk (tw @b0 (tw @b1 (tw @b6 (tw @b7 (tw @b8 @hk))))) ?_;(repeat(refine Pn.mk ?_;intro N hN))))
  exact⟨[.int .i64 jb,p],sd @Nat.zero_add,.gx [.int .i64 jb,.sl (l.map eN)],by simp only[eT,bU,aj,aq,kh,aH,Option.map_some],jb,_,rfl,tY.done h2 (kW▸hB)⟩
end Go.Proofs.YtgoelphibofcmaaGreat.V

namespace Go.Proofs.YtgoelphibofcmaaGreat.V
open Go.RowKit
inductive nD:List AV->List AV->Prop
 |nil:nD [] []
 |same (a) {l l'}:nD l l'->nD (a::l) (a::l')
 |ptr (cs rest) {l l'}:nD l l'->nD (.cr (cs++rest)::l) (.cr cs::l')
 |cj {l l'}:nD l l'->nD (.cj::l) (.sl []::l')
theorem KV {P:Program} {w:World} {D:Nat->Prop} {ι:Names} {cs rest:List AV} {v:Value} (h:cq P w D ι (.cr (cs++rest)) v):cq P w D ι (.cr cs) v:=by
 obtain⟨b,o,vs,rfl,h1,h2,h3,h4⟩:=kI h
 exact .eF _ _ (.cr cs b o vs h1 (fun a ha=>h2 a (List.mem_append_left _ ha)) (fun j hj=>h3 j (by rw[List.length_append];omega)) fun j a ha=>h4 j a (by
  have:=(List.getElem?_eq_some_iff.1 ha).1
  rw[List.getElem?_append_left this];exact ha))
theorem KX {P:Program} {w:World} {D:Nat->Prop} {ι:Names} {v:Value} (h:cq P w D ι .cj v):cq P w D ι (.sl []) v:=by
 cases h with
 |eF _ _ h=>
  cases h with
  |cj=>exact .eF _ _ (.z8 none 0 (Nat.zero_le _))
theorem nD.len {l l':List AV} (h:nD l l'):l'.length=l.length:=by induction h<;>simp_all
theorem nD.get {P:Program} {w:World} {D:Nat->Prop} {ι:Names} {l l':List AV} (h:nD l l'):∀{j:Nat} {a':AV},l'[j]? =some a'->∃a,l[j]? =some a/\∀v,cq P w D ι a v->cq P w D ι a' v:=by
 induction h with
 |nil=>intro j a' hj;simp at hj
 |same a _ ih=>
  intro j a' hj
  cases j with
  |zero=>simp at hj;subst hj;exact⟨a,rfl,fun _ h=>h⟩
  |succ j=>exact ih (by simpa using hj)
 |ptr cs rest _ ih=>
  intro j a' hj
  cases j with
  |zero=>simp at hj;subst hj;exact⟨_,rfl,fun _ h=>KV h⟩
  |succ j=>exact ih (by simpa using hj)
 |cj _ ih=>
  intro j a' hj
  cases j with
  |zero=>simp at hj;subst hj;exact⟨_,rfl,fun _ h=>KX h⟩
  |succ j=>exact ih (by simpa using hj)
theorem Call.cut {P:Program} (hm:P.follows .mixedOrders=true) {f:Nat} {args args':List AV} {σ:ar} {K:AV->ar->Prop} (hc:nD args args') (h:Call P f args' σ K):Call P f args σ K:=
 gz fun hs D ι w vs S U A=>fR hm h hs D ι w vs S U ⟨by rw[A.1,hc.len],fun j a' hj=>by
  obtain⟨a,ha,hr⟩:=hc.get (P:=P) (w:=w) (D:=D) (ι:=ι) hj
  obtain⟨u,hu,hv⟩:=A.2 j a ha
  exact⟨u,hu,hr u hv⟩⟩
theorem ao.cut {P:Program} (hm:P.follows .mixedOrders=true) {f:Nat} {args args':List AV} {r:AV} (hc:nD args args') (h:ao P f args' r):ao P f args r:=fun n=>(h n).cut hm hc
theorem l7.cut {P:Program} (hm:P.follows .mixedOrders=true) {f:Nat} {args args':List AV} {r:AV} (hc:nD args args') (h:l7 P f args' r):l7 P f args r:=fun σ=>Call.cut hm hc (h σ)
end Go.Proofs.YtgoelphibofcmaaGreat.V

namespace Go.Proofs.YtgoelphibofcmaaGreat.V
open Go.RowKit
attribute [local irreducible] dD wpOps gI Call
attribute [local go_sem] aK fW eU gE gy cE upd ck K.av cN AV.cells AV.cell rowOf rowsOf part ld rowAt bB bY dO ev iI bK db eI gr e8 dx eB cZ cY ea ec bQ aY cQ bP cU cR ez eC eA cP bV da ew bL aL cW cF iH bz cK bR aU dh aT dP AV.undef bF bG eh eu dX dY cI eH eK cD eE eD cV cX List.getD_cons_zero List.getD_cons_succ List.getD_nil List.all_cons List.all_nil Bool.and_true Bool.true_and Bool.and_self Bool.not_true Bool.not_false Option.map_some Option.map_none Option.bind_some Option.bind_none List.length_cons List.length_nil List.take_succ_cons List.take_zero List.take_nil List.drop_succ_cons List.drop_zero List.drop_nil List.head?_cons List.map_cons List.map_nil List.getElem?_cons_zero List.getElem?_cons_succ List.cons_append List.nil_append List.append_nil List.length_map List.set_cons_zero List.set_cons_succ Nat.reduceMul eq_self Int.toNat_natCast Int.natCast_nonneg and_self true_and and_true decide_true decide_false Bool.false_eq_true Nat.zero_add Nat.add_zero List.contains_cons List.contains_nil Bool.or_false Bool.false_or beq_self_eq_true Nat.reduceBEq ne_eq not_true_eq_false not_false_eq_true Id.mk.injEq false_and and_false Nat.reduceLT Int.reduceLE Int.reduceLT Int.reduceToNat Int.reduceNeg Int.reduceAdd Nat.le_refl List.length_append beq_true beq_false Bool.not_eq_eq_eq_not or_false false_or dQ aj aq aH bd bE cm aW bc aN bf cL bU
theorem K1 {s:aw} (hS:gZ s) (a d:Int):sg s (di (dj s a) d)<=4:=by
 have hF:=hS.form
 have fB:di (dj s a) d=0∨(0<=di (dj s a) d/\di (dj s a) d<=s.aA.length):=by
  unfold di dj
  rw[List.getD_eq_getElem?_getD,List.getD_eq_getElem?_getD]
  rcases ht:s.ah[a.toNat]? with _|t
  ·exact .inl (by simp[zj])
  ·have P4:=List.mem_of_getElem? ht
   simp only[Option.getD_some]
   rcases hg:t.bI[d.toNat]? with _|g
   ·exact .inl rfl
   ·exact .inr (hF.uG t P4 g (List.mem_of_getElem? hg))
 unfold sg
 by_cases h0:di (dj s a) d=0
 ·rw[if_pos h0];omega
 ·rw[if_neg h0]
  have hk:(di (dj s a) d-1).toNat<s.aA.length:=by omega
  have:=eb (hS.QR _ hk).2.1
  unfold pb at this
  unfold pP
  omega
theorem Ak {s:aw} (hS:gZ s) (a d b:Int):gJ s a d b<=4:=by
 unfold gJ
 split
 ·exact K1 hS a d
 ·omega
theorem E6 {s:aw} {l:List ae} (hS:gZ s) {i:Nat} (hi:i<l.length) {d:Int}:∀b∈mh s l i d,b.a<l.length/\b.b<l.length/\0<=b.s/\b.s<=4:=by
 intro b hb
 unfold mh at hb
 split at hb
 ·rename_i h
  simp only[List.mem_singleton]at hb
  subst hb
  exact⟨hi,(mv h.1).1,by simp only;omega,Ak hS ..⟩
 ·cases hb
theorem xj {s:aw} {l:List ae} (hS:gZ s):∀b∈cu s l,b.a<l.length/\b.b<l.length/\0<=b.s/\b.s<=4:=by
 intro b hb
 simp only[cu,gD,fK,List.mem_flatMap,List.mem_range]at hb
 obtain⟨i,hi,j,_,hb⟩:=hb
 exact E6 hS hi b hb
theorem pE {s:aw} {l:List ae} (hF:gQ l):(cu s l).length<=1000:=by
 have:=sC s l l.length
 have:=hF.sH
 rw[cu];omega
theorem G9 {bs:List PB} {e:Nat} (h:e<bs.length):bH bs e∈bs:=by
 rw[bH,List.getD_eq_getElem?_getD,List.getElem?_eq_getElem h];exact List.getElem_mem h
theorem Fx {n:Nat} {bs:List PB} {t:Int} (h:n<2):kj n bs t:=fun S h0 ⟨y,hy,hf⟩=>by
 have:y=0:=by omega
 subst this;rw[h0]at hf;cases hf
def ik (s:aw) (l:List ae) (t:Int):Nat:=(leads l.length (dV (aE t (cu s l)))).length
noncomputable def nf (s:aw) (l:List ae) (t:Int):Bool:=@decide (oE l.length (cu s l) t) (Classical.propDecidable _)
def rM (s:aw) (l:List ae) (t:Int):Int:=if 64<ik s l t then 4 else 0
theorem lY {s:aw} {l:List ae} {t:Int} {p:Prop} [Decidable p] (h:p↔oE l.length (cu s l) t):decide p=nf s l t:=by
 letI:=Classical.propDecidable (oE l.length (cu s l) t)
 unfold nf
 by_cases hp:p
 ·rw[decide_eq_true hp];exact(decide_eq_true (h.1 hp)).symm
 ·rw[decide_eq_false hp];exact(decide_eq_false fun k=>hp (h.2 k)).symm
theorem Bf (s:aw) (l:List ae) (t:Int) (hS:gZ s) (hA:jx s l):ao Tryz.prog 158 [.cr (ab s),.cr [.sl (l.map ad)],.int .i64 t] (.gx [.bool (nf s l t),.int .i64 (rM s l t)]):=by
 refine ao.body eG rfl fun hl n0=>?_
 clear hl
 have hb:=xj (l:=l) hS
 have mo:=pE (s:=s) hA.1
 have AJ:=hA.1.sH
 have tj:=C3 s l hS.form hA
 have JE:=Be l.length (by omega) (cu s l) (fun b h=>⟨(hb b h).1,(hb b h).2.1⟩) (by omega) t
 have hL:=sR (aE t (cu s l))
 have fB:=Du hL (fun b h=>⟨(hb b h).1,(hb b h).2.1⟩)
 have hlen:=(mH (dV (aE t (cu s l))) (cu s l)).2
 have nX:=jB l.length (dV (aE t (cu s l)))
 have fA:(l.map ad).length=l.length:=by simp
 by_cases tf:(64:Int)<(ik s l t:Int)
 ·have tg:64<ik s l t:=by omega
  have hd:nf s l t=false:=(lY (p:=False) ⟨False.elim,fun h=>by have:=h.1;unfold ik at tg;omega⟩).symm.trans (by simp)
  rw[ik]at tf
  (repeat(first|((repeat(revert hN;revert N;apply Pn.out));refine wk (tw @ab.eq_1 (tw @tf @fA)) ?_;(repeat(refine Pn.mk ?_;intro N hN)))|((try apply Or.inl);refine⟨_,ao.x (tj) (sd (tw @ab.eq_1 (tw @tf @fA))),?_⟩;refine hN _ _ ?_;clear hN N)|((try apply Or.inl);refine⟨_,ao.x (JE) (sd (tw @ab.eq_1 (tw @tf @fA))),?_⟩;refine hN _ _ ?_;clear hN N)))
  exact jk (.inl rfl) (r1:=.bool false) (r2:=.int .i64 4) (sd @Nat.zero_add) (sd @Nat.zero_add) (by rw[hd,rM,if_pos tg];simp only[dM,aP,bt,dU,dC,Option.map_some])
 have tg:¬64<ik s l t:=by omega
 have hf:rM s l t=0:=by rw[rM,if_neg tg]
 by_cases h2:(ik s l t:Int)<2
 ·have hd:nf s l t=true:=(lY (p:=True) ⟨fun _=>⟨by unfold ik at tg;omega,Fx (by unfold ik at h2;omega)⟩,fun _=>trivial⟩).symm.trans (by simp)
  rw[ik]at tf h2
  (repeat(first|((repeat(revert hN;revert N;apply Pn.out));refine wk (tw @ab.eq_1 (tw @tf (tw @h2 @fA))) ?_;(repeat(refine Pn.mk ?_;intro N hN)))|((try apply Or.inl);refine⟨_,ao.x (tj) (sd (tw @ab.eq_1 (tw @tf (tw @h2 @fA)))),?_⟩;refine hN _ _ ?_;clear hN N)|((try apply Or.inl);refine⟨_,ao.x (JE) (sd (tw @ab.eq_1 (tw @tf (tw @h2 @fA)))),?_⟩;refine hN _ _ ?_;clear hN N)))
  exact jk (.inl rfl) (r1:=.bool true) (r2:=.int .i64 0) (sd @Nat.zero_add) (sd @Nat.zero_add) (by rw[hd,hf];simp only[dM,aP,bt,dU,dC,Option.map_some])
 have Kr:=yZ (ik s l t) (by omega) (by unfold ik;omega) (eW (dV (aE t (cu s l))) (cu s l)) (fun e he=>by have:=fB _ (G9 he);exact⟨this.1,this.2.1,this.2.2.1⟩) (by omega) (fun e he=>by
  obtain⟨_,_,_,c,hc,dn⟩:=fB _ (G9 he)
  rw[dn];have:=hb c hc;omega)
 rw[ik]at tf h2 Kr
 (repeat(first|((repeat(revert hN;revert N;apply Pn.out));refine wk (tw @ab.eq_1 (tw @tf (tw @h2 @fA))) ?_;(repeat(refine Pn.mk ?_;intro N hN)))|((try apply Or.inl);refine⟨_,ao.x (tj) (sd (tw @ab.eq_1 (tw @tf (tw @h2 @fA)))),?_⟩;refine hN _ _ ?_;clear hN N)|((try apply Or.inl);refine⟨_,ao.x (JE) (sd (tw @ab.eq_1 (tw @tf (tw @h2 @fA)))),?_⟩;refine hN _ _ ?_;clear hN N)))
 refine .inr (aV _ _ _ _ _ (fun r σ1 hq=>?_) (Kr.x mixed))
 obtain⟨⟨jb,p,rfl,Ps⟩,rfl⟩:=hq
 refine hN _ _ ?_
 clear hN N
 (try((repeat(revert hN;revert N;apply Pn.out));refine wk @Nat.zero_add ?_;(repeat(refine Pn.mk ?_;intro N hN))))
 exact jk (.inl rfl) (r1:=.bool (decide (t<=jb))) (r2:=.int .i64 0) (sd @Nat.zero_add) (sd @Nat.zero_add) (by
  rw[hf,lY (s:=s) (l:=l) (t:=t) (p:=t<=jb) ((Ps t).trans (CR.trans ⟨fun h=>⟨by unfold ik at tg;omega,h⟩,fun h=>h.2⟩))]
  simp only[dM,aP,bt,dU,dC,Option.map_some])
theorem r4 (t:Int):ao Tryz.prog 157 [.int .i64 t] (.bool (iP t 1 16)):=by
 refine ao.body eG rfl fun hl n0=>?_
 clear hl
 have h:=lp t 1 16
 (repeat(first|((repeat(revert hN;revert N;apply Pn.out));refine wk @Nat.zero_add ?_;(repeat(refine Pn.mk ?_;intro N hN)))|((try apply Or.inl);refine⟨_,ao.x (h) (sd @Nat.zero_add),?_⟩;refine hN _ _ ?_;clear hN N)))
 exact aI (b:=iP t 1 16) (.inl rfl) (sd @Nat.zero_add) rfl
structure ue (s:aB):Prop where
 set:gZ s.aC
 Bw:jx s.aC s.bh.ah
 some:1<=s.bh.ah.length
 NU:iP s.az 1 16=true
 holds:oE s.bh.ah.length (cu s.aC s.bh.ah) s.az
noncomputable def mK (s:aB):Bool:=@decide (ue s) (Classical.propDecidable _)
theorem v8 {s:aB}:mK s=true↔ue s:=by simp[mK]
theorem jL {s:aB} (h:¬ue s):false=mK s:=by simp[mK,h]
theorem BB {s:aB} (h:ue s):true=mK s:=by simp[mK,h]
theorem oR {s:aw} {l:List ae} {t:Int}:nf s l t=true↔oE l.length (cu s l) t:=by simp[nf]
theorem KA (s:aB) (hn:fJ s.aC) (hg:s.aC.aA.length<=1048576) (ht:s.aC.ah.length<=1048576):ao Tryz.prog 96 [.cr (au s)] (.bool (mK s)):=by
 refine ao.body eG rfl fun hl n0=>?_
 clear hl
 have h1:=(Kz s.aC hn hg ht).cut mixed (.ptr _ [.sl (s.bh.ah.map ad),.int .i64 s.az] .nil)
 by_cases hS:gZ s.aC
 ·rw[lX.2 hS]at h1
  have h2:=(Ey s.aC s.bh.ah).cut mixed (.ptr _ [.sl (s.bh.ah.map ad),.int .i64 s.az] (.ptr _ [.int .i64 s.az] .nil))
  by_cases hA:jx s.aC s.bh.ah
  ·rw[lL.2 hA]at h2
   by_cases h0:(s.bh.ah.length:Int)=0
   ·have hd:decide ((s.bh.ah.length:Int)=0)=true:=decide_eq_true h0
    have kZ:false=mK s:=jL fun h=>by have:=h.some;omega
    generalize fA:(s.bh.ah.map ad).length=len at *
    (repeat(first|((repeat(revert hN;revert N;apply Pn.out));refine wk (tw @au.eq_1 (tw @ab.eq_1 @hd)) ?_;(repeat(refine Pn.mk ?_;intro N hN)))|((try apply Or.inl);refine⟨_,ao.x (h1) (sd (tw @au.eq_1 (tw @ab.eq_1 @hd))),?_⟩;refine hN _ _ ?_;clear hN N)|((try apply Or.inl);refine⟨_,ao.x (h2) (sd (tw @au.eq_1 (tw @ab.eq_1 @hd))),?_⟩;refine hN _ _ ?_;clear hN N)))
    exact aI (b:=false) (.inl rfl) (sd @Nat.zero_add) kZ
   ·have hd:decide ((s.bh.ah.length:Int)=0)=false:=decide_eq_false h0
    have h3:=r4 s.az
    cases hT:iP s.az 1 16
    ·rw[hT]at h3
     (repeat(first|((repeat(revert hN;revert N;apply Pn.out));refine wk (tw @au.eq_1 (tw @ab.eq_1 @hd)) ?_;(repeat(refine Pn.mk ?_;intro N hN)))|((try apply Or.inl);refine⟨_,ao.x (h1) (sd (tw @au.eq_1 (tw @ab.eq_1 @hd))),?_⟩;refine hN _ _ ?_;clear hN N)|((try apply Or.inl);refine⟨_,ao.x (h2) (sd (tw @au.eq_1 (tw @ab.eq_1 @hd))),?_⟩;refine hN _ _ ?_;clear hN N)|((try apply Or.inl);refine⟨_,ao.x (h3) (sd (tw @au.eq_1 (tw @ab.eq_1 @hd))),?_⟩;refine hN _ _ ?_;clear hN N)))
     exact aI (b:=false) (.inl rfl) (sd @Nat.zero_add) (jL fun h=>by have:=h.NU;rw[hT]at this;cases this)
    ·rw[hT]at h3
     have h4:=(Bf s.aC s.bh.ah s.az hS hA).cut mixed (.ptr _ [.sl (s.bh.ah.map ad),.int .i64 s.az] (.ptr _ [.int .i64 s.az] (.same _ .nil)))
     cases hB:nf s.aC s.bh.ah s.az
     ·rw[hB]at h4
      (repeat(first|((repeat(revert hN;revert N;apply Pn.out));refine wk (tw @au.eq_1 (tw @ab.eq_1 @hd)) ?_;(repeat(refine Pn.mk ?_;intro N hN)))|((try apply Or.inl);refine⟨_,ao.x (h1) (sd (tw @au.eq_1 (tw @ab.eq_1 @hd))),?_⟩;refine hN _ _ ?_;clear hN N)|((try apply Or.inl);refine⟨_,ao.x (h2) (sd (tw @au.eq_1 (tw @ab.eq_1 @hd))),?_⟩;refine hN _ _ ?_;clear hN N)|((try apply Or.inl);refine⟨_,ao.x (h3) (sd (tw @au.eq_1 (tw @ab.eq_1 @hd))),?_⟩;refine hN _ _ ?_;clear hN N)|((try apply Or.inl);refine⟨_,ao.x (h4) (sd (tw @au.eq_1 (tw @ab.eq_1 @hd))),?_⟩;refine hN _ _ ?_;clear hN N)))
      exact aI (b:=false) (.inl rfl) (sd @Nat.zero_add) (jL fun h=>by have:=oR.2 h.holds;rw[hB]at this;cases this)
     ·have hP:=oR.1 hB
      have hf:rM s.aC s.bh.ah s.az=0:=by
       have:=hP.1
       rw[rM,if_neg (by unfold ik;omega)]
      rw[hB,hf]at h4
      (repeat(first|((repeat(revert hN;revert N;apply Pn.out));refine wk (tw @au.eq_1 (tw @ab.eq_1 @hd)) ?_;(repeat(refine Pn.mk ?_;intro N hN)))|((try apply Or.inl);refine⟨_,ao.x (h1) (sd (tw @au.eq_1 (tw @ab.eq_1 @hd))),?_⟩;refine hN _ _ ?_;clear hN N)|((try apply Or.inl);refine⟨_,ao.x (h2) (sd (tw @au.eq_1 (tw @ab.eq_1 @hd))),?_⟩;refine hN _ _ ?_;clear hN N)|((try apply Or.inl);refine⟨_,ao.x (h3) (sd (tw @au.eq_1 (tw @ab.eq_1 @hd))),?_⟩;refine hN _ _ ?_;clear hN N)|((try apply Or.inl);refine⟨_,ao.x (h4) (sd (tw @au.eq_1 (tw @ab.eq_1 @hd))),?_⟩;refine hN _ _ ?_;clear hN N)))
      exact aI (b:=true) (.inl rfl) (sd @Nat.zero_add) (BB ⟨hS,hA,by omega,hT,hP⟩)
  ·have hb:o9 s.aC s.bh.ah=false:=Bool.eq_false_iff.2 fun h=>hA (lL.1 h)
   rw[hb]at h2
   (repeat(first|((repeat(revert hN;revert N;apply Pn.out));refine wk (tw @au.eq_1 @ab.eq_1) ?_;(repeat(refine Pn.mk ?_;intro N hN)))|((try apply Or.inl);refine⟨_,ao.x (h1) (sd (tw @au.eq_1 @ab.eq_1)),?_⟩;refine hN _ _ ?_;clear hN N)|((try apply Or.inl);refine⟨_,ao.x (h2) (sd (tw @au.eq_1 @ab.eq_1)),?_⟩;refine hN _ _ ?_;clear hN N)))
   exact aI (b:=false) (.inl rfl) (sd @Nat.zero_add) (jL fun h=>hA h.Bw)
 ·have hb:qg s.aC=false:=Bool.eq_false_iff.2 fun h=>hS (lX.1 h)
  rw[hb]at h1
  (repeat(first|((repeat(revert hN;revert N;apply Pn.out));refine wk (tw @au.eq_1 @ab.eq_1) ?_;(repeat(refine Pn.mk ?_;intro N hN)))|((try apply Or.inl);refine⟨_,ao.x (h1) (sd (tw @au.eq_1 @ab.eq_1)),?_⟩;refine hN _ _ ?_;clear hN N)))
  exact aI (b:=false) (.inl rfl) (sd @Nat.zero_add) (jL fun h=>hS h.set)
end Go.Proofs.YtgoelphibofcmaaGreat.V

namespace Go.Proofs.YtgoelphibofcmaaGreat.V
open Go.RowKit
attribute [local irreducible] dD wpOps gI Call
attribute [local go_sem] aK fW eU gE gy cE upd ck K.av cN AV.cells AV.cell rowOf rowsOf part ld rowAt bB bY dO ev iI bK db eI gr e8 dx eB cZ cY ea ec bQ aY cQ bP cU cR ez eC eA cP bV da ew bL aL cW cF iH bz cK bR aU dh aT dP AV.undef bF bG eh eu dX dY cI eH eK cD eE eD cV cX List.getD_cons_zero List.getD_cons_succ List.getD_nil List.all_cons List.all_nil Bool.and_true Bool.true_and Bool.and_self Bool.not_true Bool.not_false Option.map_some Option.map_none Option.bind_some Option.bind_none List.length_cons List.length_nil List.take_succ_cons List.take_zero List.take_nil List.drop_succ_cons List.drop_zero List.drop_nil List.head?_cons List.map_cons List.map_nil List.getElem?_cons_zero List.getElem?_cons_succ List.cons_append List.nil_append List.append_nil List.length_map List.set_cons_zero List.set_cons_succ Nat.reduceMul eq_self Int.toNat_natCast Int.natCast_nonneg and_self true_and and_true decide_true decide_false Bool.false_eq_true Nat.zero_add Nat.add_zero List.contains_cons List.contains_nil Bool.or_false Bool.false_or beq_self_eq_true Nat.reduceBEq ne_eq not_true_eq_false not_false_eq_true Id.mk.injEq false_and and_false Nat.reduceLT Int.reduceLE Int.reduceLT Int.reduceToNat Int.reduceNeg Int.reduceAdd Nat.le_refl List.length_append beq_true beq_false Bool.not_eq_eq_eq_not or_false false_or dQ aj aq aH bd bE cm aW bc aN bf cL bU
theorem K0 {s:aw} (hS:gZ s) (a d:Int):0<=sg s (di (dj s a) d):=by
 have hF:=hS.form
 have fB:di (dj s a) d=0∨(0<=di (dj s a) d/\di (dj s a) d<=s.aA.length):=by
  unfold di dj
  rw[List.getD_eq_getElem?_getD,List.getD_eq_getElem?_getD]
  rcases ht:s.ah[a.toNat]? with _|t
  ·exact .inl (by simp[zj])
  ·have P4:=List.mem_of_getElem? ht
   simp only[Option.getD_some]
   rcases hg:t.bI[d.toNat]? with _|g
   ·exact .inl rfl
   ·exact .inr (hF.uG t P4 g (List.mem_of_getElem? hg))
 unfold sg
 by_cases h0:di (dj s a) d=0
 ·rw[if_pos h0];omega
 ·rw[if_neg h0]
  have hk:(di (dj s a) d-1).toNat<s.aA.length:=by omega
  have:=eb (hS.QR _ hk).2.1
  unfold pb at this
  unfold pP
  omega
theorem ui {s:aw} (hS:gZ s) (a d b:Int):0<=gJ s a d b/\gJ s a d b<=4:=by
 refine⟨?_,Ak hS a d b⟩
 unfold gJ
 split
 ·exact K0 hS a d
 ·omega
def dE (s:aw) (f:ai->Int) (p:ai) (t:Int):Nat->Int
 |0=>0
 |d+1=>dE s f p t d+if 0<=f (bJ p d)then gJ s t d (f (bJ p d))else 0
def nM (s:aw) (f:ai->Int) (p:ai) (t:Int):Int:=dE s f p t 4
theorem jN {s:aw} (hS:gZ s) (f:ai->Int) (p:ai) (t:Int):∀d,0<=dE s f p t d/\dE s f p t d<=4*(d:Int)
 |0=>⟨Int.le_refl _,Int.le_refl _⟩
 |d+1=>by
  have:=jN hS f p t d
  have hb:=ui hS t d (f (bJ p d))
  simp only[dE]
  split<;>omega
theorem Af {s:aw} {l:List ae} (hA:jx s l) {p:ai} (h:0<=fH l p):eP s (fH l p)=true:=by
 unfold fH at h ⊢
 split at h
 ·rename_i h0
  rw[if_pos h0]
  exact hA.2 _ (ig (mv h0).1)
 ·omega
theorem yY (s:aw) (hS:gZ s) (l:List ae) (hA:jx s l) (p:ai) (hx:iB p.eM) (hy:iB p.ep) (t:Int) (ht:eP s t=true):ao Tryz.prog 138 [.cr (ab s),.cr [.sl (l.map ad)],.agg (aa p),.int .i64 t] (.int .i64 (nM s (fH l) p t)):=by
 refine ao.body eG rfl fun hl n0=>?_
 clear hl
 have hR:=hA.1.F9
 have Fq:l.length<=1048576:=by have:=hA.1.sH;omega
 (try((repeat(revert hN;revert N;apply Pn.out));refine wk @aa.eq_1 ?_;(repeat(refine Pn.mk ?_;intro N hN))))
 refine aJ (fun n env st=>∃k:Nat,n=(4)-k/\k<=(4)/\env 10=.int .i64 (k:Int)/\env 9=.int .i64 (dE s (fH l) p t k)/\st.get ⟨138000000,n0⟩=some ⟨true,2,[aa p]⟩) (4) ⟨0,by omega,by omega,sl @aa.eq_1,sl @aa.eq_1,sl @aa.eq_1⟩ ?_
 rintro n_a env_a st_a ⟨k,rfl,ale,xd,a9,ag0⟩ dv
 have a0:=dv 0 (by kernel_rfl);have a1:=dv 1 (by kernel_rfl);have a3:=dv 3 (by kernel_rfl);have a6:=dv 6 (by kernel_rfl)
 simp only[go_sem, ↓reduceIte,Nat.reduceEqDiff,Nat.reduceAdd,Nat.reduceSub,Nat.reduceLeDiff,reduceCtorEq,aa]at a0 a1 a3 a6
 clear dv
 by_cases hk:(k:Int)<4
 ·have cw:∀{e:Env} {gg:Rows},(e 10=.int .i64 (IntKind.i64.wrap ((k:Int)+1)))->(e 9=.int .i64 (dE s (fH l) p t (k+1)))->(gg ⟨138000000,n0⟩=some ⟨true,2,[aa p]⟩)->∃m0,m0<(4)-k/\∃k:Nat,m0=(4)-k/\k<=(4)/\e 10=.int .i64 (k:Int)/\e 9=.int .i64 (dE s (fH l) p t k)/\gg ⟨138000000,n0⟩=some ⟨true,2,[aa p]⟩:=fun x1 x2 x3=>⟨_,by omega,k+1,rfl,by omega,(by rw[x1,ax (by omega)]),x2,x3⟩
  have dc:=rZ p k (jg (by omega)) hx hy
  have wv:=tO l (bJ p k) hR Fq
  have fB:=jN hS (fH l) p t k
  by_cases h0:0<=fH l (bJ p k)
  ·have tj:=xN s hS.form t k (fH l (bJ p k)) ht (Af hA h0) (jg (by omega))
   have fw:=ui hS t k (fH l (bJ p k))
   have hw:IntKind.i64.wrap (dE s (fH l) p t k+gJ s t k (fH l (bJ p k)))=dE s (fH l) p t (k+1):=by
    rw[bp (by omega),dE,if_pos h0]
   (repeat(first|((repeat(revert hN;revert N;apply Pn.out));refine wk (tw @xd (tw @a9 (tw @ag0 (tw @a0 (tw @a1 (tw @a3 (tw @a6 (tw @hk (tw @h0 @aa.eq_1))))))))) ?_;(repeat(refine Pn.mk ?_;intro N hN)))|((try apply Or.inl);refine⟨_,ao.x (dc) (sd (tw @xd (tw @a9 (tw @ag0 (tw @a0 (tw @a1 (tw @a3 (tw @a6 (tw @hk (tw @h0 @aa.eq_1)))))))))),?_⟩;refine hN _ _ ?_;clear hN N)|((try apply Or.inl);refine⟨_,ao.x (wv) (sd (tw @xd (tw @a9 (tw @ag0 (tw @a0 (tw @a1 (tw @a3 (tw @a6 (tw @hk (tw @h0 @aa.eq_1)))))))))),?_⟩;refine hN _ _ ?_;clear hN N)|((try apply Or.inl);refine⟨_,ao.x (tj) (sd (tw @xd (tw @a9 (tw @ag0 (tw @a0 (tw @a1 (tw @a3 (tw @a6 (tw @hk (tw @h0 @aa.eq_1)))))))))),?_⟩;refine hN _ _ ?_;clear hN N)))
   refine cw ?_ ?_ ?_
   all_goals simp only[go_sem, ↓reduceIte,Nat.reduceEqDiff,Nat.reduceAdd,Nat.reduceSub,Nat.reduceLeDiff,reduceCtorEq,xd,a9,ag0,a0,a1,a3,a6,hw,aa]
  ·have hw:dE s (fH l) p t (k+1)=dE s (fH l) p t k:=by rw[dE,if_neg h0,Int.add_zero]
   (repeat(first|((repeat(revert hN;revert N;apply Pn.out));refine wk (tw @xd (tw @a9 (tw @ag0 (tw @a0 (tw @a1 (tw @a3 (tw @a6 (tw @hk (tw @h0 @aa.eq_1))))))))) ?_;(repeat(refine Pn.mk ?_;intro N hN)))|((try apply Or.inl);refine⟨_,ao.x (dc) (sd (tw @xd (tw @a9 (tw @ag0 (tw @a0 (tw @a1 (tw @a3 (tw @a6 (tw @hk (tw @h0 @aa.eq_1)))))))))),?_⟩;refine hN _ _ ?_;clear hN N)|((try apply Or.inl);refine⟨_,ao.x (wv) (sd (tw @xd (tw @a9 (tw @ag0 (tw @a0 (tw @a1 (tw @a3 (tw @a6 (tw @hk (tw @h0 @aa.eq_1)))))))))),?_⟩;refine hN _ _ ?_;clear hN N)))
   refine cw ?_ ?_ ?_
   all_goals simp only[go_sem, ↓reduceIte,Nat.reduceEqDiff,Nat.reduceAdd,Nat.reduceSub,Nat.reduceLeDiff,reduceCtorEq,xd,a9,ag0,a0,a1,a3,a6,hw,aa]
 ·(try((repeat(revert hN;revert N;apply Pn.out));refine wk (tw @xd (tw @a9 (tw @ag0 (tw @a0 (tw @a1 (tw @a3 (tw @a6 @hk))))))) ?_;(repeat(refine Pn.mk ?_;intro N hN))))
  exact bx (b:=dE s (fH l) p t k) (.inl rfl) (sd (tw @xd (tw @a9 (tw @ag0 (tw @a0 (tw @a1 (tw @a3 @a6))))))) (by rw[show k=4 by omega];rfl)
def kf (la lb:List ae):Bool:=la.all fun t=>decide (fH lb t.aF=t.aQ)
theorem Bb (la lb:List ae) (hR:uc lb) (Fq:lb.length<=1048576) (h81:la.length<=1048576):ao Tryz.prog 59 [.cr [.sl (la.map ad)],.cr [.sl (lb.map ad)]] (.bool (kf la lb)):=by
 refine ao.body eG rfl fun hl n0=>?_
 clear hl
 (try((repeat(revert hN;revert N;apply Pn.out));refine wk @Nat.zero_add ?_;(repeat(refine Pn.mk ?_;intro N hN))))
 refine aJ (fun n env st=>∃k:Nat,n=(la.length)-k/\k<=(la.length)/\env 5=.int .i64 (k:Int)/\(∀j:Nat,j<k->fH lb (aG la j).aF=(aG la j).aQ)) (la.length) ⟨0,by omega,by omega,sl @Nat.zero_add,fun _ h=>absurd h (Nat.not_lt_zero _)⟩ ?_
 rintro n_a env_a st_a ⟨k,rfl,ale,a5,kR⟩ dv
 have a0:=dv 0 (by kernel_rfl);have a1:=dv 1 (by kernel_rfl)
 simp only[go_sem, ↓reduceIte,Nat.reduceEqDiff,Nat.reduceAdd,Nat.reduceSub,Nat.reduceLeDiff,reduceCtorEq]at a0 a1
 clear dv
 by_cases hk:(k:Int)<(la.length:Int)
 ·have cw:∀{e:Env},(e 5=.int .i64 (IntKind.i64.wrap ((k:Int)+1)))->(fH lb (aG la k).aF=(aG la k).aQ)->∃m0,m0<(la.length)-k/\∃k:Nat,m0=(la.length)-k/\k<=(la.length)/\e 5=.int .i64 (k:Int)/\(∀j:Nat,j<k->fH lb (aG la j).aF=(aG la j).aQ):=fun x1 x2=>⟨_,by omega,k+1,rfl,by omega,(by rw[x1,ax (by omega)]),(all_succ kR x2)⟩
  have e7:k<la.length:=by omega
  have eJ:=fm e7
  have wv:=tO lb (aG la k).aF hR Fq
  by_cases h0:fH lb (aG la k).aF=(aG la k).aQ
  ·have hd:decide (fH lb (aG la k).aF=(aG la k).aQ)=true:=decide_eq_true h0
   (repeat(first|((repeat(revert hN;revert N;apply Pn.out));refine wk (tw @a5 (tw @a0 (tw @a1 (tw @hk (tw @eJ (tw @hd (tw @ad.eq_1 @aa.eq_1))))))) ?_;(repeat(refine Pn.mk ?_;intro N hN)))|((try apply Or.inl);refine⟨_,ao.x (wv) (sd (tw @a5 (tw @a0 (tw @a1 (tw @hk (tw @eJ (tw @hd (tw @ad.eq_1 @aa.eq_1)))))))),?_⟩;refine hN _ _ ?_;clear hN N)))
   exact cw (sd (tw @a5 (tw @a0 @a1))) (h0)
  ·have hd:decide (fH lb (aG la k).aF=(aG la k).aQ)=false:=decide_eq_false h0
   (repeat(first|((repeat(revert hN;revert N;apply Pn.out));refine wk (tw @a5 (tw @a0 (tw @a1 (tw @hk (tw @eJ (tw @hd (tw @ad.eq_1 @aa.eq_1))))))) ?_;(repeat(refine Pn.mk ?_;intro N hN)))|((try apply Or.inl);refine⟨_,ao.x (wv) (sd (tw @a5 (tw @a0 (tw @a1 (tw @hk (tw @eJ (tw @hd (tw @ad.eq_1 @aa.eq_1)))))))),?_⟩;refine hN _ _ ?_;clear hN N)))
   exact aI (b:=false) (.inl rfl) (sd @Nat.zero_add) (List.all_eq_false.2 ⟨_,ig e7,by rw[hd];simp⟩).symm
 ·(try((repeat(revert hN;revert N;apply Pn.out));refine wk (tw @a5 (tw @a0 (tw @a1 @hk))) ?_;(repeat(refine Pn.mk ?_;intro N hN))))
  exact aI (b:=true) (.inl rfl) (sd @Nat.zero_add) (List.all_eq_true.2 fun t ht=>by
   obtain⟨j,hj,rfl⟩:=List.getElem_of_mem ht
   have:=kR j (by omega)
   rw[iE hj]at this
   exact decide_eq_true this).symm
theorem FT (s:aB) (hA:jx s.aC s.bh.ah) (x:ae):ao Tryz.prog 111 [.cr (au s),.agg (ad x)] (.bool (decide (fH s.bh.ah x.aF=x.aQ))):=by
 refine ao.body eG rfl fun hl n0=>?_
 clear hl
 have wv:=(tO s.bh.ah x.aF hA.1.F9 (by have:=hA.1.sH;omega)).cut mixed (.ptr _ [.int .i64 s.az] (.same _ .nil))
 (repeat(first|((repeat(revert hN;revert N;apply Pn.out));refine wk (tw @au.eq_1 (tw @ad.eq_1 @aa.eq_1)) ?_;(repeat(refine Pn.mk ?_;intro N hN)))|((try apply Or.inl);refine⟨_,ao.x (wv) (sd (tw @au.eq_1 (tw @ad.eq_1 @aa.eq_1))),?_⟩;refine hN _ _ ?_;clear hN N)))
 exact aI (b:=decide (fH s.bh.ah x.aF=x.aQ)) (.inl rfl) (sd @Nat.zero_add) rfl
noncomputable def qo (s:aB) (l:List ae):Bool:=mK s&&o9 s.aC l
theorem C4 (s:aB) (l:List ae) (hn:fJ s.aC) (hg:s.aC.aA.length<=1048576) (ht:s.aC.ah.length<=1048576):ao Tryz.prog 58 [.cr (au s),.cr [.sl (l.map ad)]] (.int .i64 (if qo s l then 0 else 1)):=by
 refine ao.body eG rfl fun hl n0=>?_
 clear hl
 have h1:=KA s hn hg ht
 have h2:=(Ey s.aC l).cut mixed (.ptr _ [.sl (s.bh.ah.map ad),.int .i64 s.az] (.same _ .nil))
 cases b1:mK s
 ·rw[b1]at h1
  (repeat(first|((repeat(revert hN;revert N;apply Pn.out));refine wk @Nat.zero_add ?_;(repeat(refine Pn.mk ?_;intro N hN)))|((try apply Or.inl);refine⟨_,ao.x (h1) (sd @Nat.zero_add),?_⟩;refine hN _ _ ?_;clear hN N)))
  exact bx (b:=1) (.inl rfl) (sd @Nat.zero_add) (by rw[qo,b1];rfl)
 rw[b1]at h1
 rw[au]at h1 ⊢
 cases b2:o9 s.aC l
 ·rw[b2]at h2
  (repeat(first|((repeat(revert hN;revert N;apply Pn.out));refine wk @ab.eq_1 ?_;(repeat(refine Pn.mk ?_;intro N hN)))|((try apply Or.inl);refine⟨_,ao.x (h1) (sd @ab.eq_1),?_⟩;refine hN _ _ ?_;clear hN N)|((try apply Or.inl);refine⟨_,ao.x (h2) (sd @ab.eq_1),?_⟩;refine hN _ _ ?_;clear hN N)))
  exact bx (b:=1) (.inl rfl) (sd @Nat.zero_add) (by rw[qo,b1,b2];rfl)
 ·rw[b2]at h2
  (repeat(first|((repeat(revert hN;revert N;apply Pn.out));refine wk @ab.eq_1 ?_;(repeat(refine Pn.mk ?_;intro N hN)))|((try apply Or.inl);refine⟨_,ao.x (h1) (sd @ab.eq_1),?_⟩;refine hN _ _ ?_;clear hN N)|((try apply Or.inl);refine⟨_,ao.x (h2) (sd @ab.eq_1),?_⟩;refine hN _ _ ?_;clear hN N)))
  exact bx (b:=0) (.inl rfl) (sd @Nat.zero_add) (by rw[qo,b1,b2];rfl)
theorem qp {s:aB} {l:List ae}:qo s l=true↔ue s/\jx s.aC l:=by simp[qo,v8,lL]
noncomputable def iQ (s:aB) (l:List ae):Int:=if qo s l then(if kf s.bh.ah l then 0 else 2)else 1
theorem FR (s:aB) (l:List ae) (hn:fJ s.aC) (hg:s.aC.aA.length<=1048576) (ht:s.aC.ah.length<=1048576):ao Tryz.prog 67 [.cr (au s),.cr [.sl (l.map ad)]] (.int .i64 (iQ s l)):=by
 refine ao.body eG rfl fun hl n0=>?_
 clear hl
 have h1:=C4 s l hn hg ht
 cases b1:qo s l
 ·rw[b1]at h1
  (repeat(first|((repeat(revert hN;revert N;apply Pn.out));refine wk @Nat.zero_add ?_;(repeat(refine Pn.mk ?_;intro N hN)))|((try apply Or.inl);refine⟨_,ao.x (h1) (sd @Nat.zero_add),?_⟩;refine hN _ _ ?_;clear hN N)))
  exact bx (b:=1) (.inl rfl) (sd @Nat.zero_add) (by rw[iQ,b1];rfl)
 obtain⟨hP,hA⟩:=qp.1 b1
 have h2:=(Bb s.bh.ah l hA.1.F9 (by have:=hA.1.sH;omega) (by have:=hP.Bw.1.sH;omega)).cut mixed (.ptr _ [.int .i64 s.az] (.same _ .nil))
 rw[b1]at h1
 rw[au]at h1 ⊢
 cases b2:kf s.bh.ah l
 ·rw[b2]at h2
  (repeat(first|((repeat(revert hN;revert N;apply Pn.out));refine wk @Nat.zero_add ?_;(repeat(refine Pn.mk ?_;intro N hN)))|((try apply Or.inl);refine⟨_,ao.x (h1) (sd @Nat.zero_add),?_⟩;refine hN _ _ ?_;clear hN N)|((try apply Or.inl);refine⟨_,ao.x (h2) (sd @Nat.zero_add),?_⟩;refine hN _ _ ?_;clear hN N)))
  exact bx (b:=2) (.inl rfl) (sd @Nat.zero_add) (by rw[iQ,b1,b2];rfl)
 ·rw[b2]at h2
  (repeat(first|((repeat(revert hN;revert N;apply Pn.out));refine wk @Nat.zero_add ?_;(repeat(refine Pn.mk ?_;intro N hN)))|((try apply Or.inl);refine⟨_,ao.x (h1) (sd @Nat.zero_add),?_⟩;refine hN _ _ ?_;clear hN N)|((try apply Or.inl);refine⟨_,ao.x (h2) (sd @Nat.zero_add),?_⟩;refine hN _ _ ?_;clear hN N)))
  exact bx (b:=0) (.inl rfl) (sd @Nat.zero_add) (by rw[iQ,b1,b2];rfl)
def j4 (s:aB) (l:List ae) (p:ai) (t:Int):Bool:=decide (t≠fH l p)&&decide (s.az<=nM s.aC (fH l) p t)
def ij (s:aB) (l:List ae) (p:ai):Int:=match (List.range s.aC.ah.length).find? fun k:Nat=>j4 s l p k with
 |some k=>k
 |none=>-1
theorem Cw {f:Nat->Bool} {n k:Nat} (h1:k<n) (h2:f k=true) (h3:∀j,j<k->f j=false):(List.range n).find? f=some k:=by
 rw[List.find?_range_eq_some]
 exact⟨h2,List.mem_range.2 h1,fun j hj=>by rw[h3 j hj];rfl⟩
theorem te {f:Nat->Bool} {n:Nat} (h:∀j,j<n->f j=false):(List.range n).find? f=none:=by
 rw[List.find?_range_eq_none]
 exact fun j hj=>by rw[h j hj];rfl
theorem wi {s:aw} {k:Nat} (h:k<s.ah.length):eP s k=true:=by
 unfold eP;exact jg (by omega)
theorem C6 (s:aB) (hP:ue s) (l:List ae) (hA:jx s.aC l) (p:ai) (hx:iB p.eM) (hy:iB p.ep):ao Tryz.prog 113 [.cr (au s),.cr [.sl (l.map ad)],.agg (aa p)] (.int .i64 (ij s l p)):=by
 refine ao.body eG rfl fun hl n0=>?_
 clear hl
 have JG:=hP.set.BE
 have wv:=tO l p hA.1.F9 (by have:=hA.1.sH;omega)
 (repeat(first|((repeat(revert hN;revert N;apply Pn.out));refine wk (tw @au.eq_1 @aa.eq_1) ?_;(repeat(refine Pn.mk ?_;intro N hN)))|((try apply Or.inl);refine⟨_,ao.x (wv) (sd (tw @au.eq_1 @aa.eq_1)),?_⟩;refine hN _ _ ?_;clear hN N)))
 refine aJ (fun n env st=>∃k:Nat,n=(s.aC.ah.length)-k/\k<=(s.aC.ah.length)/\env 8=.int .i64 (k:Int)/\st.get ⟨113000000,n0⟩=some ⟨true,2,[aa p]⟩/\(∀j:Nat,j<k->j4 s l p (j:Nat)=false)) (s.aC.ah.length) ⟨0,by omega,by omega,sl (tw @aa.eq_1 @au.eq_1),sl (tw @aa.eq_1 @au.eq_1),fun _ h=>absurd h (Nat.not_lt_zero _)⟩ ?_
 rintro n_a env_a st_a ⟨k,rfl,ale,a8,ag0,kR⟩ dv
 have a0:=dv 0 (by kernel_rfl);have a1:=dv 1 (by kernel_rfl);have a5:=dv 5 (by kernel_rfl);have a7:=dv 7 (by kernel_rfl)
 simp only[go_sem, ↓reduceIte,Nat.reduceEqDiff,Nat.reduceAdd,Nat.reduceSub,Nat.reduceLeDiff,reduceCtorEq,aa,au]at a0 a1 a5 a7
 clear dv
 by_cases hk:(k:Int)<(s.aC.ah.length:Int)
 ·have cw:∀{e:Env} {gg:Rows},(e 8=.int .i64 (IntKind.i64.wrap ((k:Int)+1)))->(gg ⟨113000000,n0⟩=some ⟨true,2,[aa p]⟩)->(j4 s l p (k:Nat)=false)->∃m0,m0<(s.aC.ah.length)-k/\∃k:Nat,m0=(s.aC.ah.length)-k/\k<=(s.aC.ah.length)/\e 8=.int .i64 (k:Int)/\gg ⟨113000000,n0⟩=some ⟨true,2,[aa p]⟩/\(∀j:Nat,j<k->j4 s l p (j:Nat)=false):=fun x1 x2 x3=>⟨_,by omega,k+1,rfl,by omega,(by rw[x1,ax (by omega)]),x2,(all_succ kR x3)⟩
  have e7:k<s.aC.ah.length:=by omega
  have tj:=(yY s.aC hP.set l hA p hx hy k (wi e7)).cut mixed (.ptr _ [.sl (s.bh.ah.map ad),.int .i64 s.az] (.same _ (.same _ (.same _ .nil))))
  by_cases h0:(k:Int)=fH l p
  ·have hd:decide ((k:Int)=fH l p)=true:=decide_eq_true h0
   (try((repeat(revert hN;revert N;apply Pn.out));refine wk (tw @a8 (tw @ag0 (tw @a0 (tw @a1 (tw @a5 (tw @a7 (tw @hk (tw @hd @aa.eq_1)))))))) ?_;(repeat(refine Pn.mk ?_;intro N hN))))
   refine cw ?_ ?_ (by rw[j4,h0];simp)
   all_goals simp only[go_sem, ↓reduceIte,Nat.reduceEqDiff,Nat.reduceAdd,Nat.reduceSub,Nat.reduceLeDiff,reduceCtorEq,a8,ag0,a0,a1,a5,a7,aa]
  ·have hd:decide ((k:Int)=fH l p)=false:=decide_eq_false h0
   by_cases h1:s.az<=nM s.aC (fH l) p k
   ·(repeat(first|((repeat(revert hN;revert N;apply Pn.out));refine wk (tw @a8 (tw @ag0 (tw @a0 (tw @a1 (tw @a5 (tw @a7 (tw @hk (tw @hd (tw @h1 (tw @ab.eq_1 @aa.eq_1)))))))))) ?_;(repeat(refine Pn.mk ?_;intro N hN)))|((try apply Or.inl);refine⟨_,ao.x (tj) (sd (tw @a8 (tw @ag0 (tw @a0 (tw @a1 (tw @a5 (tw @a7 (tw @hk (tw @hd (tw @h1 (tw @ab.eq_1 @aa.eq_1))))))))))),?_⟩;refine hN _ _ ?_;clear hN N)))
    exact bx (b:=(k:Int)) (.inl rfl) (sd @Nat.zero_add) (by rw[ij,Cw e7 (by simp[j4,h0,h1]) kR])
   ·(repeat(first|((repeat(revert hN;revert N;apply Pn.out));refine wk (tw @a8 (tw @ag0 (tw @a0 (tw @a1 (tw @a5 (tw @a7 (tw @hk (tw @hd (tw @h1 (tw @ab.eq_1 @aa.eq_1)))))))))) ?_;(repeat(refine Pn.mk ?_;intro N hN)))|((try apply Or.inl);refine⟨_,ao.x (tj) (sd (tw @a8 (tw @ag0 (tw @a0 (tw @a1 (tw @a5 (tw @a7 (tw @hk (tw @hd (tw @h1 (tw @ab.eq_1 @aa.eq_1))))))))))),?_⟩;refine hN _ _ ?_;clear hN N)))
    refine cw ?_ ?_ (by simp[j4,h1])
    all_goals simp only[go_sem, ↓reduceIte,Nat.reduceEqDiff,Nat.reduceAdd,Nat.reduceSub,Nat.reduceLeDiff,reduceCtorEq,a8,ag0,a0,a1,a5,a7,aa]
 ·(try((repeat(revert hN;revert N;apply Pn.out));refine wk (tw @a8 (tw @ag0 (tw @a0 (tw @a1 (tw @a5 (tw @a7 @hk)))))) ?_;(repeat(refine Pn.mk ?_;intro N hN))))
  exact bx (b:=-1) (.inl rfl) (sd @Nat.zero_add) (by rw[ij,te fun j hj=>kR j (by omega)])
end Go.Proofs.YtgoelphibofcmaaGreat.V

namespace Go.Proofs.YtgoelphibofcmaaGreat.V
open Go.RowKit
attribute [local irreducible] dD wpOps gI Call
attribute [local go_sem] aK fW eU gE gy cE upd ck K.av cN AV.cells AV.cell rowOf rowsOf part ld rowAt bB bY dO ev iI bK db eI gr e8 dx eB cZ cY ea ec bQ aY cQ bP cU cR ez eC eA cP bV da ew bL aL cW cF iH bz cK bR aU dh aT dP AV.undef bF bG eh eu dX dY cI eH eK cD eE eD cV cX List.getD_cons_zero List.getD_cons_succ List.getD_nil List.all_cons List.all_nil Bool.and_true Bool.true_and Bool.and_self Bool.not_true Bool.not_false Option.map_some Option.map_none Option.bind_some Option.bind_none List.length_cons List.length_nil List.take_succ_cons List.take_zero List.take_nil List.drop_succ_cons List.drop_zero List.drop_nil List.head?_cons List.map_cons List.map_nil List.getElem?_cons_zero List.getElem?_cons_succ List.cons_append List.nil_append List.append_nil List.length_map List.set_cons_zero List.set_cons_succ Nat.reduceMul eq_self Int.toNat_natCast Int.natCast_nonneg and_self true_and and_true decide_true decide_false Bool.false_eq_true Nat.zero_add Nat.add_zero List.contains_cons List.contains_nil Bool.or_false Bool.false_or beq_self_eq_true Nat.reduceBEq ne_eq not_true_eq_false not_false_eq_true Id.mk.injEq false_and and_false Nat.reduceLT Int.reduceLE Int.reduceLT Int.reduceToNat Int.reduceNeg Int.reduceAdd Nat.le_refl List.length_append beq_true beq_false Bool.not_eq_eq_eq_not or_false false_or dQ aj aq aH bd bE cm aW bc aN bf cL bU
def fo (ps:List ai) (i:Nat):ai:=ps.getD i ⟨0,0⟩
theorem gP {ps:List ai} {i:Nat} (h:i<ps.length):fo ps i=ps[i]:=by simp[fo,List.getD_eq_getElem?_getD,h]
theorem zp {ps:List ai} {i:Nat} (h:i<ps.length):fo ps i∈ps:=by rw[gP h];exact List.getElem_mem h
theorem qQ {ps:List ai} {i:Nat} (h:i<ps.length):(ps.map aa)[i]? =some (aa (fo ps i)):=by simp[fo,List.getD_eq_getElem?_getD,h]
def kX (ps:List ai):Prop:=ps.Pairwise fun a b=>ki a b=true
theorem kX.at_ {ps:List ai} (h:kX ps) {i j:Nat} (Em:i<j) (hj:j<ps.length):ki (fo ps i) (fo ps j)=true:=by
 rw[gP hj,gP (by omega)]
 exact List.pairwise_iff_getElem.1 h i j (by omega) hj Em
def jC (ps:List ai) (p:ai):Nat:=ps.findIdx fun q=> !ki q p
theorem y9 (ps:List ai) (p:ai):jC ps p<=ps.length:=List.findIdx_le_length
theorem EA {ps:List ai} {p:ai} {x:Nat} (h:x<jC ps p):ki (fo ps x) p=true:=by
 have hx:x<ps.length:=Nat.lt_of_lt_of_le h (y9 ps p)
 have:=List.not_of_lt_findIdx h
 rw[gP hx]
 simpa using this
theorem y8 {ps:List ai} {p:ai} (hR:kX ps) {x:Nat} (h:jC ps p<=x) (hx:x<ps.length):ki (fo ps x) p=false:=by
 have h0:jC ps p<ps.length:=by omega
 have h1:ki (fo ps (jC ps p)) p=false:=by
  have:=List.findIdx_getElem (p:=fun q=> !ki q p) (xs:=ps) (w:=h0)
  rw[gP h0]
  have e:(!ki ps[jC ps p] p)=true:=this
  simpa using e
 by_cases he:jC ps p=x
 ·rw[<-he];exact h1
 ·have h2:=hR.at_ (show jC ps p<x by omega) hx
  cases hc:ki (fo ps x) p
  ·rfl
  ·rw[iq h2 hc]at h1;cases h1
def mD (ps:List ai) (p:ai):List ai:=if jC ps p<ps.length/\fo ps (jC ps p)=p then ps else ps.take (jC ps p)++p::ps.drop (jC ps p)
theorem vG (ps:List ai) (p:ai):(mD ps p).length<=ps.length+1:=by
 unfold mD
 have:=y9 ps p
 split
 ·omega
 ·simp;omega
theorem qL (ps:List ai) (p x:ai):x∈mD ps p↔x=p∨x∈ps:=by
 unfold mD
 split
 ·rename_i h
  refine⟨.inr,fun hx=>hx.elim (fun e=>?_) id⟩
  rw[e,<-h.2];exact zp h.1
 ·have:x∈ps↔x∈ps.take (jC ps p)++ps.drop (jC ps p):=by rw[List.take_append_drop]
  rw[this]
  simp only[List.mem_append,List.mem_cons]
  constructor
  ·rintro(h|h|h)
   ·exact .inr (.inl h)
   ·exact .inl h
   ·exact .inr (.inr h)
  ·rintro(h|h|h)
   ·exact .inr (.inl h)
   ·exact .inl h
   ·exact .inr (.inr h)
theorem vH {ps:List ai} (hR:kX ps) (p:ai):kX (mD ps p):=by
 unfold mD
 split
 ·exact hR
 ·rename_i kZ
  have hd:∀x∈ps.drop (jC ps p),ki p x=true:=fun x hx=>by
   obtain⟨j,hj,rfl⟩:=List.getElem_of_mem hx
   rw[List.length_drop]at hj
   rw[List.getElem_drop]
   have gw:jC ps p+j<ps.length:=by omega
   have h1:=y8 (p:=p) hR (Nat.le_add_right _ j) gw
   rw[<-gP gw]
   refine zb h1 fun he=>?_
   by_cases h0:j=0
   ·subst h0
    exact kZ ⟨by omega,by simpa using he⟩
   ·have:=hR.at_ (show jC ps p<jC ps p+j by omega) gw
    rw[he]at this
    have h2:=y8 (p:=p) hR (Nat.le_refl _) (show jC ps p<ps.length by omega)
    rw[this]at h2;cases h2
  have ht:∀x∈ps.take (jC ps p),ki x p=true:=fun x hx=>by
   obtain⟨j,hj,rfl⟩:=List.getElem_of_mem hx
   rw[List.length_take]at hj
   rw[List.getElem_take]
   have:=EA (ps:=ps) (p:=p) (x:=j) (by omega)
   rwa [gP (by omega)]at this
  refine List.pairwise_append.2 ⟨hR.sublist (List.take_sublist _ _),List.pairwise_cons.2 ⟨hd,hR.sublist (List.drop_sublist _ _)⟩,fun x hx y hy=>?_⟩
  rcases List.mem_cons.1 hy with rfl|hy
  ·exact ht x hx
  ·exact iq (ht x hx) (hd y hy)
theorem zt:∀{ps qs:List ai},kX ps->kX qs->(∀x,x∈ps↔x∈qs)->ps=qs
 |[],[],_,_,_=>rfl
 |[],q::qs,_,_,h=>absurd ((h q).2 (by simp)) (by simp)
 |p::ps,[],_,_,h=>absurd ((h p).1 (by simp)) (by simp)
 |p::ps,q::qs,hp,hq,h=>by
  obtain⟨p1,p2⟩:=List.pairwise_cons.1 hp
  obtain⟨q1,q2⟩:=List.pairwise_cons.1 hq
  have e:p=q:=by
   rcases List.mem_cons.1 ((h p).1 (by simp))with e|e
   ·exact e
   ·rcases List.mem_cons.1 ((h q).2 (by simp))with e'|e'
    ·exact e'.symm
    ·have:=Ik (q1 p e)
     rw[p1 q e']at this;cases this
  subst e
  congr 1
  refine zt p2 q2 fun x=>⟨fun hx=>?_,fun hx=>?_⟩
  ·rcases List.mem_cons.1 ((h x).1 (List.mem_cons_of_mem _ hx))with e|e
   ·subst e;have:=p1 x hx;rw[mz]at this;cases this
   ·exact e
  ·rcases List.mem_cons.1 ((h x).2 (List.mem_cons_of_mem _ hx))with e|e
   ·subst e;have:=q1 x hx;rw[mz]at this;cases this
   ·exact e
def O1 (σ:ar) (kp:Id->Prop) (ps:List ai) (r:AV) (σ':ar):Prop:=
 ∃o:Id,r=.own o 0 ps.length/\σ'.get o=some ⟨true,2,ps.map aa⟩/\σ.next<=σ'.next/\o.aZ<σ'.next/\(σ.next<=o.aZ∨¬kp o)/\∀x:Id,x.aZ<σ.next->kp x->σ'.get x=σ.get x
theorem LX {ps:List ai} {i:Nat} {q:ai}:(ps.map aa).set i (aa q)=(ps.set i q).map aa:=List.map_set.symm
def ye (ps:List ai) (p:ai) (i:Nat):List ai:=(ps++[p]).take (i+1)++ps.drop i
theorem oZ (ps:List ai) (p:ai) {i:Nat} (h:i<=ps.length):(ye ps p i).length=ps.length+1:=by simp[ye];omega
theorem NX {ps:List ai} {p:ai} {i j:Nat} (hi:i<=ps.length) (hj:j<i):fo (ye ps p i) j=fo ps j:=by
 unfold fo ye
 rw[List.getD_eq_getElem?_getD,List.getD_eq_getElem?_getD,List.getElem?_append_left (by simp;omega),List.getElem?_take,if_pos (by omega),List.getElem?_append_left (by omega)]
theorem Gu (ps:List ai) (p:ai):ye ps p ps.length=ps++[p]:=by
 unfold ye
 rw[List.drop_length,List.append_nil,List.take_of_length_le (by simp)]
theorem I9 {ps:List ai} {p:ai} {i:Nat} (hi:i<ps.length):(ye ps p (i+1)).set (i+1) (fo ps i)=ye ps p i:=by
 refine List.ext_getElem? fun j=>?_
 rw[List.getElem?_set,oZ ps p (by omega)]
 unfold ye
 by_cases hj:i+1=j
 ·subst hj
  rw[if_pos rfl,if_pos (by omega),List.getElem?_append_right (by simp;omega)]
  simp only[List.length_take,List.length_append,List.length_cons,List.length_nil]
  rw[show i+1-min (i+1) (ps.length+(0+1))=0 by omega,List.getElem?_drop,Nat.add_zero,List.getElem?_eq_getElem hi,gP hi]
 ·rw[if_neg hj]
  by_cases dz:j<i+1
  ·rw[List.getElem?_append_left (by simp;omega),List.getElem?_append_left (by simp;omega),List.getElem?_take,List.getElem?_take,if_pos (by omega),if_pos dz]
  ·rw[List.getElem?_append_right (by simp;omega),List.getElem?_append_right (by simp;omega)]
   simp only[List.length_take,List.length_append,List.length_cons,List.length_nil,List.getElem?_drop]
   congr 1
   omega
theorem K5 {ps:List ai} {p:ai} {i:Nat} (hi:i<=ps.length):(ye ps p i).set i p=ps.take i++p::ps.drop i:=by
 refine List.ext_getElem? fun j=>?_
 rw[List.getElem?_set,oZ ps p hi]
 unfold ye
 by_cases hj:i=j
 ·subst hj
  rw[if_pos rfl,if_pos (by omega),List.getElem?_append_right (by simp;omega)]
  simp[Nat.min_eq_left hi]
 ·rw[if_neg hj]
  by_cases dz:j<i
  ·rw[List.getElem?_append_left (by simp;omega),List.getElem?_append_left (by simp;omega),List.getElem?_take,List.getElem?_take,if_pos (by omega),if_pos dz,List.getElem?_append_left (by omega)]
  ·rw[List.getElem?_append_right (by simp;omega),List.getElem?_append_right (by simp;omega)]
   simp only[List.length_take,List.length_append,List.length_cons,List.length_nil]
   rw[show j-min i ps.length=(j-i-1)+1 by omega,List.getElem?_cons_succ]
   congr 1
   omega
theorem K7 {X:fu} {Q:Ex->Env->ar->Prop} {N:Env->ar->Prop} {c:VC} {env:Env} {σ:ar} {id:Nat} (I:Env->ar->Prop) (h2:∀e s,I e s->N e s) (h1:∀N':Env->ar->Prop,(∀e s,I e s->N' e s)->dD X c (aT id (dh N' Q)) env σ):dD X c (aT id (dh N Q)) env σ:=h1 N h2
theorem pw (ps:List ai) (hR:kX ps) (hlen:ps.length<=1048576) (p:ai) (o:Id) (σ:ar) (ho:σ.get o=some ⟨true,2,ps.map aa⟩) (lQ:o.aZ<σ.next):
  Call Tryz.prog 112 [.own o 0 ps.length,.agg (aa p)] σ (O1 σ (fun x=>(x=o)=False) (mD ps p)):=by
 refine gW eG rfl fun mu=>?_
 clear mu
 have pU:=dw lQ
 have Rk:=y9 ps p
 have zY:(ps.map aa).length=ps.length:=by simp
 (try((repeat(revert hN;revert N;apply Pn.out));refine wk (tw @aa.eq_1 @pU) ?_;(repeat(refine Pn.mk ?_;intro N hN))))
 refine K7 (fun e s=>e 5=.int .i64 (jC ps p:Int)/\e 0=.own o 0 ps.length/\e 3=.ptr ⟨112000000,σ.next⟩ 0 0/\s.get ⟨112000000,σ.next⟩=some ⟨true,2,[aa p]⟩/\s.get o=some ⟨true,2,ps.map aa⟩/\σ.next<s.next/\∀x:Id,x.aZ<σ.next->s.get x=σ.get x) ?_ ?_
 ·rintro e s ⟨f5,f0,f3,fg0,fg1,fn,ffr⟩
  refine hN _ _ ?_
  clear hN N
  have Kp:=dw (i:=o) (n:=s.next) (by omega)
  obtain⟨a,ha⟩:∃a,jC ps p=a:=⟨_,rfl⟩
  rw[ha]at f5 Rk
  by_cases hex:a<ps.length/\fo ps a=p
  ·have dz:(a:Int)<(ps.length:Int):=by omega
   have hg:=qQ hex.1
   have hx:decide ((fo ps a).eM=p.eM)=true:=decide_eq_true (by rw[hex.2])
   have hy:decide ((fo ps a).ep=p.ep)=true:=decide_eq_true (by rw[hex.2])
   (try((repeat(revert hN;revert N;apply Pn.out));refine wk (tw @f5 (tw @f0 (tw @f3 (tw @fg0 (tw @fg1 (tw @dz (tw @hg (tw @hx (tw @hy (tw @zY @aa.eq_1)))))))))) ?_;(repeat(refine Pn.mk ?_;intro N hN))))
   have hp:mD ps p=ps:=by unfold mD;rw[ha,if_pos hex]
   rw[hp]
   exact gK (.inl rfl) (vs:=[.own o 0 ps.length]) (sd @Nat.zero_add) ⟨o,rfl,sd @fg1,by(try dsimp only);omega,by(try dsimp only);omega,.inr (by simp),fun x hx _=>sd (ffr x hx)⟩
  refine BO (fun N hN=>?_)
  refine DQ (fun e s=>e 5=.int .i64 (a:Int)/\e 0=.own o 0 ps.length/\e 3=.ptr ⟨112000000,σ.next⟩ 0 0/\s.get ⟨112000000,σ.next⟩=some ⟨true,2,[aa p]⟩/\s.get o=some ⟨true,2,ps.map aa⟩/\σ.next<s.next/\∀x:Id,x.aZ<σ.next->s.get x=σ.get x) ?_ ?_
  ·clear f5 f0 f3 fg0 fg1 fn ffr Kp
   rintro e s ⟨f5,f0,f3,fg0,fg1,fn,ffr⟩
   refine hN _ _ ?_
   clear hN N
   have Kp:=dw (i:=o) (n:=s.next) (by omega)
   have OP:=dw (i:=⟨112000000,σ.next⟩) (n:=s.next) fn
   have e1:ps.length+1<=16777216:=by omega
   have pf:ps.map aa++[[.int .i64 p.eM,.int .i64 p.ep]]=(ye ps p ps.length).map aa:=by rw[Gu];simp[aa]
   have rW:IntKind.i64.wrap ((ps.length:Int)+1-1)=(ps.length:Int):=by rw[bp (by omega)];omega
   have hp:mD ps p=ps.take a++p::ps.drop a:=by unfold mD;rw[ha,if_neg hex]
   have Nd:((⟨112000000,σ.next⟩:Id)=o)=False:=by
    refine eq_false fun h=>?_
    rw[<-h]at lQ;exact Nat.lt_irrefl _ lQ
   (try((repeat(revert hN;revert N;apply Pn.out));refine wk (tw @f5 (tw @f0 (tw @f3 (tw @fg0 (tw @fg1 (tw @Kp (tw @OP (tw @Nd (tw @zY (tw @e1 (tw @pf (tw @rW (tw @Int.natCast_add (tw @Int.cast_ofNat_Int @aa.eq_1)))))))))))))) ?_;(repeat(refine Pn.mk ?_;intro N hN))))
   refine aJ (fun m env st=>∃i:Nat,m=i/\a<=i/\i<=ps.length/\env 6=.int .i64 (i:Int)/\st.get ⟨112006003,s.next⟩=some ⟨true,2,(ye ps p i).map aa⟩/\st.get ⟨112000000,σ.next⟩=some ⟨true,2,[aa p]⟩/\s.next<st.next/\∀x:Id,x.aZ<σ.next->(x=o)=False->st.get x=σ.get x) ps.length ⟨ps.length,rfl,Rk,Nat.le_refl _,sd (tw @rW (tw @Int.natCast_add @Int.cast_ofNat_Int)),sd @pf,sd (tw @fg0 (tw @OP (tw @Nd @aa.eq_1))),by(try dsimp only);omega,fun x hx tp=>by
    have h1:=dw (i:=x) (n:=s.next) (by omega)
    have h2:=ffr x hx
    simp only[go_sem, ↓reduceIte,Nat.reduceEqDiff,Nat.reduceAdd,Nat.reduceSub,Nat.reduceLeDiff,reduceCtorEq,h1,h2,tp]⟩ ?_
   rintro m env_b st_b ⟨i,hmi,bl,ble,b6,bg0,bg1,bn,ej⟩ bkp
   have b0:=bkp 0 (by kernel_rfl)
   have b3:=bkp 3 (by kernel_rfl)
   have b5:=bkp 5 (by kernel_rfl)
   simp only[go_sem, ↓reduceIte,Nat.reduceEqDiff,Nat.reduceAdd,Nat.reduceSub,Nat.reduceLeDiff,reduceCtorEq,f0,f3,f5,aa]at b0 b3 b5
   clear bkp
   have Tc:((ye ps p i).map aa).length=ps.length+1:=by rw[List.length_map,oZ ps p ble]
   by_cases Jw:(a:Int)<(i:Int)
   ·obtain⟨k,rfl⟩:∃k,i=k+1:=⟨i-1,by omega⟩
    have e7:k<ps.length:=by omega
    have tn:IntKind.i64.wrap (((k+1:Nat):Int)-1)=(k:Int):=by rw[bp (by omega)];omega
    have hq:((ye ps p (k+1)).map aa)[k]? =some (aa (fo ps k)):=by rw[qQ (by rw[oZ ps p ble];omega),NX ble (Nat.lt_succ_self _)]
    have GI:∃z,((ye ps p (k+1)).map aa)[k+1]? =some (aa z):=⟨_,qQ (by rw[oZ ps p ble];omega)⟩
    obtain⟨z,GI⟩:=GI
    have eO:((ye ps p (k+1)).map aa).set (k+1) (aa (fo ps k))=(ye ps p k).map aa:=by rw[LX,I9 e7]
    have c1:(k:Int)<(ps.length:Int)+1:=by omega
    have c2:(k:Int)+1<(ps.length:Int)+1:=by omega
    have c3:(0:Int)<=(k:Int)+1:=by omega
    have c4:((k:Int)+1).toNat=k+1:=by omega
    have c5:(a:Int)<(k:Int)+1:=by omega
    have c6:IntKind.i64.wrap ((k:Int)+1-1)=(k:Int):=by rw[bp (by omega)];omega
    rw[aa]at eO hq GI
    (try((repeat(revert hN;revert N;apply Pn.out));refine wk (tw @b0 (tw @b3 (tw @b5 (tw @b6 (tw @bg0 (tw @bg1 (tw @Jw (tw @tn (tw @hq (tw @GI (tw @eO (tw @Tc (tw @c1 (tw @c2 (tw @c3 (tw @c4 (tw @c5 (tw @c6 (tw @Int.natCast_add @Int.cast_ofNat_Int))))))))))))))))))) ?_;(repeat(refine Pn.mk ?_;intro N hN))))
    exact⟨k,by omega,k,rfl,by omega,by omega,sd @c6,sd @eO,sd (tw @bg1 @Nd),by(try dsimp only);omega,fun x hx tp=>by
     have h1:=dw (i:=x) (n:=s.next) (by omega)
     have h2:=ej x hx tp
     simp only[go_sem, ↓reduceIte,Nat.reduceEqDiff,Nat.reduceAdd,Nat.reduceSub,Nat.reduceLeDiff,reduceCtorEq,h1,h2]⟩
   ·obtain rfl:i=a:=by omega
    have eO:((ye ps p i).map aa).set i (aa p)=(mD ps p).map aa:=by rw[LX,K5 Rk,hp]
    have GI:∃z,((ye ps p i).map aa)[i]? =some (aa z):=⟨_,qQ (by rw[oZ ps p ble];omega)⟩
    obtain⟨z,GI⟩:=GI
    have l9:(mD ps p).length=ps.length+1:=by rw[hp];simp;omega
    have c1:(i:Int)<(ps.length:Int)+1:=by omega
    rw[aa]at eO GI
    (try((repeat(revert hN;revert N;apply Pn.out));refine wk (tw @b0 (tw @b3 (tw @b5 (tw @b6 (tw @bg0 (tw @bg1 (tw @Jw (tw @GI (tw @eO (tw @Tc (tw @c1 (tw @Int.natCast_add (tw @Int.cast_ofNat_Int @aa.eq_1))))))))))))) ?_;(repeat(refine Pn.mk ?_;intro N hN))))
    rw[<-l9]
    exact gK (.inl rfl) (vs:=[.own ⟨112006003,s.next⟩ 0 (mD ps p).length]) (sd (tw @b0 @l9)) ⟨⟨112006003,s.next⟩,rfl,sd @eO,by(try dsimp only);omega,by(try dsimp only);omega,.inl (by(try dsimp only);omega),fun x hx tp=>by
     have h1:=dw (i:=x) (n:=s.next) (by omega)
     have h2:=ej x hx tp
     simp only[go_sem, ↓reduceIte,Nat.reduceEqDiff,Nat.reduceAdd,Nat.reduceSub,Nat.reduceLeDiff,reduceCtorEq,h1,h2]⟩
  ·intro N hN
   by_cases Jt:(a:Int)<(ps.length:Int)
   ·have hg:=qQ (ps:=ps) (i:=a) (by omega)
    by_cases hx:(fo ps a).eM=p.eM
    ·have sQ:decide ((fo ps a).eM=p.eM)=true:=decide_eq_true hx
     have Rx:decide ((fo ps a).ep=p.ep)=false:=decide_eq_false fun h=>hex ⟨by omega,zo hx h⟩
     (try((repeat(revert hN;revert N;apply Pn.out));refine wk (tw @f5 (tw @f0 (tw @f3 (tw @fg0 (tw @fg1 (tw @Jt (tw @hg (tw @sQ (tw @Rx (tw @zY @aa.eq_1)))))))))) ?_;(repeat(refine Pn.mk ?_;intro N hN))))
     exact⟨sd @f5,sd @f0,sd @f3,sd (tw @fg0 @aa.eq_1),sd @fg1,by(try dsimp only);omega,fun x hx=>sd (ffr x hx)⟩
    ·have sQ:decide ((fo ps a).eM=p.eM)=false:=decide_eq_false hx
     (try((repeat(revert hN;revert N;apply Pn.out));refine wk (tw @f5 (tw @f0 (tw @f3 (tw @fg0 (tw @fg1 (tw @Jt (tw @hg (tw @sQ (tw @Bool.false_and (tw @zY @aa.eq_1)))))))))) ?_;(repeat(refine Pn.mk ?_;intro N hN))))
     exact⟨sd @f5,sd @f0,sd @f3,sd (tw @fg0 @aa.eq_1),sd @fg1,by(try dsimp only);omega,fun x hx=>sd (ffr x hx)⟩
   ·(try((repeat(revert hN;revert N;apply Pn.out));refine wk (tw @f5 (tw @f0 (tw @f3 (tw @fg0 (tw @fg1 (tw @Jt (tw @zY @aa.eq_1))))))) ?_;(repeat(refine Pn.mk ?_;intro N hN))))
    exact⟨sd @f5,sd @f0,sd @f3,sd (tw @fg0 @aa.eq_1),sd @fg1,by(try dsimp only);omega,fun x hx=>sd (ffr x hx)⟩
 intro N hN
 refine aJ (fun m env st=>∃a:Nat,m=a/\jC ps p<=a/\a<=ps.length/\env 5=.int .i64 (a:Int)/\st.get ⟨112000000,σ.next⟩=some ⟨true,2,[aa p]⟩/\st.get o=some ⟨true,2,ps.map aa⟩/\σ.next<st.next/\∀x:Id,x.aZ<σ.next->st.get x=σ.get x) ps.length ⟨ps.length,rfl,Rk,Nat.le_refl _,sd @Nat.zero_add,sd @aa.eq_1,sd (tw @pU @ho),by(try dsimp only);omega,fun x hx=>by have:=dw hx;simp only[go_sem, ↓reduceIte,Nat.reduceEqDiff,Nat.reduceAdd,Nat.reduceSub,Nat.reduceLeDiff,reduceCtorEq,this]⟩ ?_
 rintro m env_a st_a ⟨a,hma,al,ale,a5,ag0,ag1,an,dv⟩ akp
 have a0:=akp 0 (by kernel_rfl)
 have a3:=akp 3 (by kernel_rfl)
 simp only[go_sem, ↓reduceIte,Nat.reduceEqDiff,Nat.reduceAdd,Nat.reduceSub,Nat.reduceLeDiff,reduceCtorEq,aa]at a0 a3
 clear akp
 by_cases h0:(0:Int)<(a:Int)
 ·obtain⟨b,rfl⟩:∃b,a=b+1:=⟨a-1,by omega⟩
  have mo:b<ps.length:=by omega
  have fw:(b:Int)<(ps.length:Int):=by omega
  have hg:=qQ mo
  have hw:IntKind.i64.wrap (((b+1:Nat):Int)-1)=(b:Int):=by rw[bp (by omega)];omega
  have hq:=nE (fo ps b) p
  cases hc:ki (fo ps b) p
  ·rw[hc]at hq
   (repeat(first|((repeat(revert hN;revert N;apply Pn.out));refine wk (tw @a0 (tw @a3 (tw @a5 (tw @ag0 (tw @ag1 (tw @h0 (tw @fw (tw @hg (tw @hw (tw @zY @aa.eq_1)))))))))) ?_;(repeat(refine Pn.mk ?_;intro N hN)))|((try apply Or.inl);refine⟨_,ao.x (hq) (sd (tw @a0 (tw @a3 (tw @a5 (tw @ag0 (tw @ag1 (tw @h0 (tw @fw (tw @hg (tw @hw (tw @zY @aa.eq_1))))))))))),?_⟩;refine hN _ _ ?_;clear hN N)))
   refine⟨b,by omega,b,rfl,?_,by omega,sd @hw,sd (tw @ag0 @aa.eq_1),sd @ag1,by(try dsimp only);omega,fun x hx=>sd (dv x hx)⟩
   rcases Nat.lt_or_ge b (jC ps p)with h|h
   ·rw[EA h]at hc;cases hc
   ·exact h
  ·rw[hc]at hq
   have jA:jC ps p=b+1:=by
    rcases Nat.lt_or_ge b (jC ps p)with h|h
    ·omega
    ·have:=y8 (p:=p) hR h mo
     rw[hc]at this;cases this
   (repeat(first|((repeat(revert hN;revert N;apply Pn.out));refine wk (tw @a0 (tw @a3 (tw @a5 (tw @ag0 (tw @ag1 (tw @h0 (tw @fw (tw @hg (tw @hw (tw @zY @aa.eq_1)))))))))) ?_;(repeat(refine Pn.mk ?_;intro N hN)))|((try apply Or.inl);refine⟨_,ao.x (hq) (sd (tw @a0 (tw @a3 (tw @a5 (tw @ag0 (tw @ag1 (tw @h0 (tw @fw (tw @hg (tw @hw (tw @zY @aa.eq_1))))))))))),?_⟩;refine hN _ _ ?_;clear hN N)))
   exact⟨sd (tw @a5 @jA),sd @a0,sd @a3,sd (tw @ag0 @aa.eq_1),sd @ag1,by(try dsimp only);omega,fun x hx=>sd (dv x hx)⟩
 ·have jA:jC ps p=a:=by omega
  (try((repeat(revert hN;revert N;apply Pn.out));refine wk (tw @a0 (tw @a3 (tw @a5 (tw @ag0 (tw @ag1 (tw @h0 (tw @zY @aa.eq_1))))))) ?_;(repeat(refine Pn.mk ?_;intro N hN))))
  exact⟨sd (tw @a5 @jA),sd @a0,sd @a3,sd (tw @ag0 @aa.eq_1),sd @ag1,by(try dsimp only);omega,fun x hx=>sd (dv x hx)⟩
end Go.Proofs.YtgoelphibofcmaaGreat.V

namespace Go.Proofs.YtgoelphibofcmaaGreat.V
open Go.RowKit
attribute [local irreducible] dD wpOps gI Call
attribute [local go_sem] aK fW eU gE gy cE upd ck K.av cN AV.cells AV.cell rowOf rowsOf part ld rowAt bB bY dO ev iI bK db eI gr e8 dx eB cZ cY ea ec bQ aY cQ bP cU cR ez eC eA cP bV da ew bL aL cW cF iH bz cK bR aU dh aT dP AV.undef bF bG eh eu dX dY cI eH eK cD eE eD cV cX List.getD_cons_zero List.getD_cons_succ List.getD_nil List.all_cons List.all_nil Bool.and_true Bool.true_and Bool.and_self Bool.not_true Bool.not_false Option.map_some Option.map_none Option.bind_some Option.bind_none List.length_cons List.length_nil List.take_succ_cons List.take_zero List.take_nil List.drop_succ_cons List.drop_zero List.drop_nil List.head?_cons List.map_cons List.map_nil List.getElem?_cons_zero List.getElem?_cons_succ List.cons_append List.nil_append List.append_nil List.length_map List.set_cons_zero List.set_cons_succ Nat.reduceMul eq_self Int.toNat_natCast Int.natCast_nonneg and_self true_and and_true decide_true decide_false Bool.false_eq_true Nat.zero_add Nat.add_zero List.contains_cons List.contains_nil Bool.or_false Bool.false_or beq_self_eq_true Nat.reduceBEq ne_eq not_true_eq_false not_false_eq_true Id.mk.injEq false_and and_false Nat.reduceLT Int.reduceLE Int.reduceLT Int.reduceToNat Int.reduceNeg Int.reduceAdd Nat.le_refl List.length_append beq_true beq_false Bool.not_eq_eq_eq_not or_false false_or dQ aj aq aH bd bE cm aW bc aN bf cL bU
def jj (l:List ae) (ps:List ai) (q:ai):List ai:=if r8 q=true/\ek l q<0 then mD ps q else ps
def eV (l:List ae) (ps:List ai) (p:ai):Nat->List ai
 |0=>ps
 |d+1=>jj l (eV l ps p d) (bJ p d)
def eo (l:List ae):Nat->List ai
 |0=>[]
 |i+1=>eV l (eo l i) (aG l i).aF 4
def vm (l:List ae):List ai:=eo l l.length
theorem zg {l:List ae} {ps:List ai} (h:kX ps) (q:ai):kX (jj l ps q):=by
 unfold jj;split
 ·exact vH h q
 ·exact h
theorem qb {l:List ae} {ps:List ai} (h:kX ps) (p:ai):∀d,kX (eV l ps p d)
 |0=>h
 |d+1=>zg (qb h p d) _
theorem qd (l:List ae):∀i,kX (eo l i)
 |0=>List.Pairwise.nil
 |i+1=>qb (qd l i) _ 4
theorem zf (l:List ae) (ps:List ai) (q:ai):(jj l ps q).length<=ps.length+1:=by
 unfold jj;split
 ·exact vG ps q
 ·omega
theorem qa (l:List ae) (ps:List ai) (p:ai):∀d,(eV l ps p d).length<=ps.length+d
 |0=>Nat.le_refl _
 |d+1=>by
  have:=qa l ps p d
  have:=zf l (eV l ps p d) (bJ p d)
  simp only[eV];omega
theorem qc (l:List ae):∀i,(eo l i).length<=i*4
 |0=>Nat.le_refl _
 |i+1=>by
  have:=qc l i
  have:=qa l (eo l i) (aG l i).aF 4
  simp only[eo];omega
theorem u9 (l:List ae) (ps:List ai) (p:ai) (x:ai):∀d,x∈eV l ps p d↔x∈ps∨∃k,k<d/\x=bJ p (k:Nat)/\r8 x=true/\ek l x<0
 |0=>⟨.inl,fun h=>h.elim id fun⟨_,h,_⟩=>absurd h (Nat.not_lt_zero _)⟩
 |d+1=>by
  simp only[eV,jj]
  have ih:=u9 l ps p x d
  split
  ·rename_i h
   rw[qL,ih]
   constructor
   ·rintro(rfl|h1|⟨k,h1,h2⟩)
    ·exact .inr ⟨d,Nat.lt_succ_self _,rfl,h⟩
    ·exact .inl h1
    ·exact .inr ⟨k,by omega,h2⟩
   ·rintro(h1|⟨k,h1,h2⟩)
    ·exact .inr (.inl h1)
    ·by_cases hk:k=d
     ·subst hk;exact .inl h2.1
     ·exact .inr (.inr ⟨k,by omega,h2⟩)
  ·rename_i h
   rw[ih]
   constructor
   ·rintro(h1|⟨k,h1,h2⟩)
    ·exact .inl h1
    ·exact .inr ⟨k,by omega,h2⟩
   ·rintro(h1|⟨k,h1,h2⟩)
    ·exact .inl h1
    ·by_cases hk:k=d
     ·subst hk;rw[h2.1]at h2;exact absurd h2.2 h
     ·exact .inr ⟨k,by omega,h2⟩
def GY (l:List ae) (x:ai):Prop:=r8 x=true/\ek l x<0/\∃i d:Nat,i<l.length/\d<4/\x=bJ (aG l i).aF d
theorem vd (l:List ae) (x:ai):∀i,x∈eo l i↔∃j d:Nat,j<i/\d<4/\x=bJ (aG l j).aF d/\r8 x=true/\ek l x<0
 |0=>⟨fun h=>(by cases h),fun⟨_,_,h,_⟩=>absurd h (Nat.not_lt_zero _)⟩
 |i+1=>by
  simp only[eo]
  rw[u9,vd l x i]
  constructor
  ·rintro(⟨j,d,h1,h2⟩|⟨d,h1,h2⟩)
   ·exact⟨j,d,by omega,h2⟩
   ·exact⟨i,d,Nat.lt_succ_self _,h1,h2⟩
  ·rintro⟨j,d,h1,h2,h3⟩
   by_cases hj:j=i
   ·subst hj;exact .inr ⟨d,h2,h3⟩
   ·exact .inl ⟨j,d,by omega,h2,h3⟩
theorem xR (l:List ae) (x:ai):x∈vm l↔GY l x:=by
 unfold vm GY
 rw[vd]
 exact⟨fun⟨j,d,h1,h2,h3,h4,h5⟩=>⟨h4,h5,j,d,h1,h2,h3⟩,fun⟨h4,h5,j,d,h1,h2,h3⟩=>⟨j,d,h1,h2,h3,h4,h5⟩⟩
theorem FQ (l:List ae) (hF:gQ l) (σ:ar):Call Tryz.prog 71 [.cr [.sl (l.map ad)]] σ (O1 σ (fun _=>True) (vm l)):=by
 refine gW eG rfl fun mu=>?_
 clear mu
 have hR:=hF.F9
 have AJ:=hF.sH
 (try((repeat(revert hN;revert N;apply Pn.out));refine wk @Nat.zero_add ?_;(repeat(refine Pn.mk ?_;intro N hN))))
 refine aJ (fun n env st=>∃i:Nat,n=(l.length)-i/\i<=(l.length)/\env 4=.int .i64 (i:Int)/\(∃o:Id,env 3=.own o 0 (eo l i).length/\st.get o=some ⟨true,2,(eo l i).map aa⟩/\o.aZ<st.next/\σ.next<=o.aZ/\∀x:Id,x.aZ<σ.next->st.get x=σ.get x)) (l.length) ⟨0,by omega,by omega,sl @Nat.zero_add,⟨⟨71001000,σ.next+1⟩,by simp only[go_sem, ↓reduceIte,Nat.reduceEqDiff,Nat.reduceAdd,Nat.reduceSub,Nat.reduceLeDiff,reduceCtorEq];rfl,by simp only[go_sem, ↓reduceIte,Nat.reduceEqDiff,Nat.reduceAdd,Nat.reduceSub,Nat.reduceLeDiff,reduceCtorEq];rfl,by(try dsimp only);omega,by(try dsimp only);omega,fun x hx=>by
  have:=dw (i:=x) (n:=σ.next+1) (by omega)
  simp only[go_sem, ↓reduceIte,Nat.reduceEqDiff,Nat.reduceAdd,Nat.reduceSub,Nat.reduceLeDiff,reduceCtorEq,this]⟩⟩ ?_
 rintro n_a env_a st_a ⟨i,rfl,ale,a4,nj⟩ dv
 have a0:=dv 0 (by kernel_rfl)
 simp only[go_sem, ↓reduceIte,Nat.reduceEqDiff,Nat.reduceAdd,Nat.reduceSub,Nat.reduceLeDiff,reduceCtorEq]at a0
 clear dv
 obtain⟨o,a3,ag,aov,Mh,dv⟩:=nj
 by_cases hi:(i:Int)<(l.length:Int)
 ·have cw:∀{e:Env} {gg:Rows} {nx:Nat},(e 4=.int .i64 (IntKind.i64.wrap ((i:Int)+1)))->(∃o:Id,e 3=.own o 0 (eo l (i+1)).length/\gg o=some ⟨true,2,(eo l (i+1)).map aa⟩/\o.aZ<nx/\σ.next<=o.aZ/\∀x:Id,x.aZ<σ.next->gg x=σ.get x)->∃m0,m0<(l.length)-i/\∃i:Nat,m0=(l.length)-i/\i<=(l.length)/\e 4=.int .i64 (i:Int)/\(∃o:Id,e 3=.own o 0 (eo l i).length/\gg o=some ⟨true,2,(eo l i).map aa⟩/\o.aZ<nx/\σ.next<=o.aZ/\∀x:Id,x.aZ<σ.next->gg x=σ.get x):=fun x1 x2=>⟨_,by omega,i+1,rfl,by omega,(by rw[x1,ax (by omega)]),x2⟩
  have fB:i<l.length:=by omega
  (try((repeat(revert hN;revert N;apply Pn.out));refine wk (tw @a4 (tw @a0 (tw @a3 @hi))) ?_;(repeat(refine Pn.mk ?_;intro N hN))))
  refine aJ (fun n env st=>∃d:Nat,n=(4)-d/\d<=(4)/\env 5=.int .i64 (d:Int)/\(∃o:Id,env 3=.own o 0 (eV l (eo l i) (aG l i).aF d).length/\st.get o=some ⟨true,2,(eV l (eo l i) (aG l i).aF d).map aa⟩/\o.aZ<st.next/\σ.next<=o.aZ/\∀x:Id,x.aZ<σ.next->st.get x=σ.get x)) (4) ⟨0,by omega,by omega,sl (tw @a4 @a0),⟨o,by simp only[go_sem, ↓reduceIte,Nat.reduceEqDiff,Nat.reduceAdd,Nat.reduceSub,Nat.reduceLeDiff,reduceCtorEq,a3,eV],by simp only[go_sem, ↓reduceIte,Nat.reduceEqDiff,Nat.reduceAdd,Nat.reduceSub,Nat.reduceLeDiff,reduceCtorEq,ag,eV],by(try dsimp only);omega,Mh,fun x hx=>sd (dv x hx)⟩⟩ ?_
  rintro n_b env_b st_b ⟨d,rfl,ble,b5,bI0⟩ ej
  have b0:=ej 0 (by kernel_rfl);have b4:=ej 4 (by kernel_rfl)
  simp only[go_sem, ↓reduceIte,Nat.reduceEqDiff,Nat.reduceAdd,Nat.reduceSub,Nat.reduceLeDiff,reduceCtorEq,a4,a0]at b0 b4
  clear ej
  obtain⟨ob,b3,bg,bov,QN,ej⟩:=bI0
  by_cases hd:(d:Int)<4
  ·have eL:∀{e:Env} {gg:Rows} {nx:Nat},(e 5=.int .i64 (IntKind.i64.wrap ((d:Int)+1)))->(∃o:Id,e 3=.own o 0 (eV l (eo l i) (aG l i).aF (d+1)).length/\gg o=some ⟨true,2,(eV l (eo l i) (aG l i).aF (d+1)).map aa⟩/\o.aZ<nx/\σ.next<=o.aZ/\∀x:Id,x.aZ<σ.next->gg x=σ.get x)->∃m0,m0<(4)-d/\∃d:Nat,m0=(4)-d/\d<=(4)/\e 5=.int .i64 (d:Int)/\(∃o:Id,e 3=.own o 0 (eV l (eo l i) (aG l i).aF d).length/\gg o=some ⟨true,2,(eV l (eo l i) (aG l i).aF d).map aa⟩/\o.aZ<nx/\σ.next<=o.aZ/\∀x:Id,x.aZ<σ.next->gg x=σ.get x):=fun x1 x2=>⟨_,by omega,d+1,rfl,by omega,(by rw[x1,ax (by omega)]),x2⟩
   have jZ:=fm fB
   have HT:=om (hF.pt fB)
   have dc:=rZ (aG l i).aF d (jg (by omega)) HT.1 HT.2
   have GH:=uW (bJ (aG l i).aF d)
   have iY:=dw bov
   have zY:((eV l (eo l i) (aG l i).aF d).map aa).length=(eV l (eo l i) (aG l i).aF d).length:=by simp
   cases hp:r8 (bJ (aG l i).aF d)
   ·rw[hp]at GH
    have iU:eV l (eo l i) (aG l i).aF (d+1)=eV l (eo l i) (aG l i).aF d:=by
     simp only[eV,jj];rw[if_neg fun h=>by rw[hp]at h;cases h.1]
    (repeat(first|((repeat(revert hN;revert N;apply Pn.out));refine wk (tw @b5 (tw @b0 (tw @b4 (tw @b3 (tw @bg (tw @hd (tw @jZ (tw @iY (tw @ad.eq_1 @aa.eq_1))))))))) ?_;(repeat(refine Pn.mk ?_;intro N hN)))|((try apply Or.inl);refine⟨_,ao.x (dc) (sd (tw @b5 (tw @b0 (tw @b4 (tw @b3 (tw @bg (tw @hd (tw @jZ (tw @iY (tw @ad.eq_1 @aa.eq_1)))))))))),?_⟩;refine hN _ _ ?_;clear hN N)|((try apply Or.inl);refine⟨_,ao.x (GH) (sd (tw @b5 (tw @b0 (tw @b4 (tw @b3 (tw @bg (tw @hd (tw @jZ (tw @iY (tw @ad.eq_1 @aa.eq_1)))))))))),?_⟩;refine hN _ _ ?_;clear hN N)))
    exact eL (sd (tw @b5 (tw @b0 (tw @b4 @aa.eq_1)))) (by exact⟨ob,sd (tw @b3 @iU),sd (tw @bg (tw @iY @iU)),by(try dsimp only);omega,QN,fun x hx=>by
     have h1:=dw (i:=x) (n:=st_b.next) (by omega)
     have h2:=dw (i:=x) (n:=st_b.next+1) (by omega)
     have h3:=ej x hx
     simp only[go_sem, ↓reduceIte,Nat.reduceEqDiff,Nat.reduceAdd,Nat.reduceSub,Nat.reduceLeDiff,reduceCtorEq,h1,h2,h3]⟩)
   ·rw[hp]at GH
    have zX:=pZ l (bJ (aG l i).aF d) hR (by omega)
    by_cases hx:ek l (bJ (aG l i).aF d)<0
    ·have iU:eV l (eo l i) (aG l i).aF (d+1)=mD (eV l (eo l i) (aG l i).aF d) (bJ (aG l i).aF d):=by
      simp only[eV,jj];rw[if_pos ⟨hp,hx⟩]
     have hl1:=qa l (eo l i) (aG l i).aF d
     have PQ:=qc l i
     (repeat(first|((repeat(revert hN;revert N;apply Pn.out));refine wk (tw @b5 (tw @b0 (tw @b4 (tw @b3 (tw @bg (tw @hd (tw @jZ (tw @iY (tw @hx (tw @ad.eq_1 @aa.eq_1)))))))))) ?_;(repeat(refine Pn.mk ?_;intro N hN)))|((try apply Or.inl);refine⟨_,ao.x (dc) (sd (tw @b5 (tw @b0 (tw @b4 (tw @b3 (tw @bg (tw @hd (tw @jZ (tw @iY (tw @hx (tw @ad.eq_1 @aa.eq_1))))))))))),?_⟩;refine hN _ _ ?_;clear hN N)|((try apply Or.inl);refine⟨_,ao.x (GH) (sd (tw @b5 (tw @b0 (tw @b4 (tw @b3 (tw @bg (tw @hd (tw @jZ (tw @iY (tw @hx (tw @ad.eq_1 @aa.eq_1))))))))))),?_⟩;refine hN _ _ ?_;clear hN N)|((try apply Or.inl);refine⟨_,ao.x (zX) (sd (tw @b5 (tw @b0 (tw @b4 (tw @b3 (tw @bg (tw @hd (tw @jZ (tw @iY (tw @hx (tw @ad.eq_1 @aa.eq_1))))))))))),?_⟩;refine hN _ _ ?_;clear hN N)))
     refine .inr (aV _ _ _ _ _ (fun r σ1 hq=>?_) (pw _ (qb (qd l i) _ d) (by omega) (bJ (aG l i).aF d) ob _ (sd (tw @bg @iY)) (by(try dsimp only);omega)))
     obtain⟨g1,x1⟩:=σ1
     obtain⟨o1,rfl,q1,q2,q3,q4,q5⟩:=hq
     (try dsimp only at q1 q2 q3 q4 q5)
     refine hN _ _ ?_
     clear hN N
     (try((repeat(revert hN;revert N;apply Pn.out));refine wk (tw @b5 (tw @b0 @b4)) ?_;(repeat(refine Pn.mk ?_;intro N hN))))
     exact eL (sd (tw @b5 (tw @b0 (tw @b4 @aa.eq_1)))) (by exact⟨o1,sd @iU,sd (tw @q1 @iU),by(try dsimp only);omega,by
      rcases q4 with h|h
      ·omega
      ·have:o1=ob:=by simpa using h
       rw[this];exact QN,fun x hx=>by
      have h1:=dw (i:=x) (n:=st_b.next) (by omega)
      have h2:=dw (i:=x) (n:=st_b.next+1) (by omega)
      have h3:=ej x hx
      have h4:(x=ob)=False:=eq_false fun h=>by rw[h]at hx;omega
      have h5:=q5 x (by omega) h4
      simp only[go_sem, ↓reduceIte,Nat.reduceEqDiff,Nat.reduceAdd,Nat.reduceSub,Nat.reduceLeDiff,reduceCtorEq,h1,h2,h3,h5]⟩)
    ·have iU:eV l (eo l i) (aG l i).aF (d+1)=eV l (eo l i) (aG l i).aF d:=by
      simp only[eV,jj];rw[if_neg fun h=>hx h.2]
     (repeat(first|((repeat(revert hN;revert N;apply Pn.out));refine wk (tw @b5 (tw @b0 (tw @b4 (tw @b3 (tw @bg (tw @hd (tw @jZ (tw @iY (tw @hx (tw @ad.eq_1 @aa.eq_1)))))))))) ?_;(repeat(refine Pn.mk ?_;intro N hN)))|((try apply Or.inl);refine⟨_,ao.x (dc) (sd (tw @b5 (tw @b0 (tw @b4 (tw @b3 (tw @bg (tw @hd (tw @jZ (tw @iY (tw @hx (tw @ad.eq_1 @aa.eq_1))))))))))),?_⟩;refine hN _ _ ?_;clear hN N)|((try apply Or.inl);refine⟨_,ao.x (GH) (sd (tw @b5 (tw @b0 (tw @b4 (tw @b3 (tw @bg (tw @hd (tw @jZ (tw @iY (tw @hx (tw @ad.eq_1 @aa.eq_1))))))))))),?_⟩;refine hN _ _ ?_;clear hN N)|((try apply Or.inl);refine⟨_,ao.x (zX) (sd (tw @b5 (tw @b0 (tw @b4 (tw @b3 (tw @bg (tw @hd (tw @jZ (tw @iY (tw @hx (tw @ad.eq_1 @aa.eq_1))))))))))),?_⟩;refine hN _ _ ?_;clear hN N)))
     exact eL (sd (tw @b5 (tw @b0 (tw @b4 @aa.eq_1)))) (by exact⟨ob,sd (tw @b3 @iU),sd (tw @bg (tw @iY @iU)),by(try dsimp only);omega,QN,fun x hx=>by
      have h1:=dw (i:=x) (n:=st_b.next) (by omega)
      have h2:=dw (i:=x) (n:=st_b.next+1) (by omega)
      have h3:=ej x hx
      simp only[go_sem, ↓reduceIte,Nat.reduceEqDiff,Nat.reduceAdd,Nat.reduceSub,Nat.reduceLeDiff,reduceCtorEq,h1,h2,h3]⟩)
  ·have HK:d=4:=by omega
   rw[HK]at b3 bg
   have hnu:eV l (eo l i) (aG l i).aF 4=eo l (i+1):=rfl
   rw[hnu]at b3 bg
   (try((repeat(revert hN;revert N;apply Pn.out));refine wk (tw @b5 (tw @b0 (tw @b4 (tw @b3 (tw @bg @hd))))) ?_;(repeat(refine Pn.mk ?_;intro N hN))))
   exact cw (sd (tw @b5 (tw @b0 (tw @b4 @aa.eq_1)))) (by exact⟨ob,sd @b3,sd @bg,by(try dsimp only);omega,QN,fun x hx=>sd (ej x hx)⟩)
 ·have ly:i=l.length:=by omega
  (try((repeat(revert hN;revert N;apply Pn.out));refine wk (tw @a4 (tw @a0 (tw @a3 (tw @ag @hi)))) ?_;(repeat(refine Pn.mk ?_;intro N hN))))
  exact gK (.inl rfl) (vs:=[.own o 0 (eo l i).length]) (sd @a3) ⟨o,by rw[vm,<-ly];rfl,by rw[vm,<-ly];simp only[go_sem, ↓reduceIte,Nat.reduceEqDiff,Nat.reduceAdd,Nat.reduceSub,Nat.reduceLeDiff,reduceCtorEq,ag],by(try dsimp only);omega,by(try dsimp only);omega,.inl Mh,fun x hx _=>sd (dv x hx)⟩
end Go.Proofs.YtgoelphibofcmaaGreat.V

namespace Go.Proofs.YtgoelphibofcmaaGreat.V
open Go.RowKit
attribute [local irreducible] dD wpOps gI Call
attribute [local go_sem] aK fW eU gE gy cE upd ck K.av cN AV.cells AV.cell rowOf rowsOf part ld rowAt bB bY dO ev iI bK db eI gr e8 dx eB cZ cY ea ec bQ aY cQ bP cU cR ez eC eA cP bV da ew bL aL cW cF iH bz cK bR aU dh aT dP AV.undef bF bG eh eu dX dY cI eH eK cD eE eD cV cX List.getD_cons_zero List.getD_cons_succ List.getD_nil List.all_cons List.all_nil Bool.and_true Bool.true_and Bool.and_self Bool.not_true Bool.not_false Option.map_some Option.map_none Option.bind_some Option.bind_none List.length_cons List.length_nil List.take_succ_cons List.take_zero List.take_nil List.drop_succ_cons List.drop_zero List.drop_nil List.head?_cons List.map_cons List.map_nil List.getElem?_cons_zero List.getElem?_cons_succ List.cons_append List.nil_append List.append_nil List.length_map List.set_cons_zero List.set_cons_succ Nat.reduceMul eq_self Int.toNat_natCast Int.natCast_nonneg and_self true_and and_true decide_true decide_false Bool.false_eq_true Nat.zero_add Nat.add_zero List.contains_cons List.contains_nil Bool.or_false Bool.false_or beq_self_eq_true Nat.reduceBEq ne_eq not_true_eq_false not_false_eq_true Id.mk.injEq false_and and_false Nat.reduceLT Int.reduceLE Int.reduceLT Int.reduceToNat Int.reduceNeg Int.reduceAdd Nat.le_refl List.length_append beq_true beq_false Bool.not_eq_eq_eq_not or_false false_or dQ aj aq aH bd bE cm aW bc aN bf cL bU
def dR (s:aB) (l:List ae):Nat->List ai
 |0=>vm l
 |i+1=>if fH s.bh.ah (aG l i).aF=(aG l i).aQ then dR s l i else mD (dR s l i) (aG l i).aF
def bW (s:aB) (l:List ae):List ai:=dR s l l.length
def jY (s:aB) (l:List ae):Option (ai×Int):=((bW s l).find? fun p=>decide (0<=ij s l p)).map fun p=>(p,ij s l p)
def nz:Option (ai×Int)->List AV
 |none=>[.int .i64 0,.int .i64 0,.int .i64 0]
 |some (p,t)=>[.int .i64 p.eM,.int .i64 p.ep,.int .i64 t]
theorem lh (s:aB) (l:List ae):∀i,kX (dR s l i)
 |0=>qd l _
 |i+1=>by
  simp only[dR];split
  ·exact lh s l i
  ·exact vH (lh s l i) _
theorem nR (s:aB) (l:List ae):∀i,(dR s l i).length<=l.length*4+i
 |0=>qc l _
 |i+1=>by
  have:=nR s l i
  simp only[dR];split
  ·omega
  ·have:=vG (dR s l i) (aG l i).aF;omega
theorem mj (s:aB) {l:List ae} (hF:gQ l):∀i,i<=l.length->∀x∈dR s l i,r8 x=true
 |0,_,x,hx=>((xR l x).1 hx).1
 |i+1,hi,x,hx=>by
  simp only[dR]at hx
  split at hx
  ·exact mj s hF i (by omega) x hx
  ·rcases(qL _ _ _).1 hx with rfl|h
   ·exact hF.pt (by omega)
   ·exact mj s hF i (by omega) x h
theorem Hx {f:ai->Bool} {ps:List ai} {k:Nat} (h1:k<ps.length) (h2:f (fo ps k)=true) (h3:∀j,j<k->f (fo ps j)=false):ps.find? f=some (fo ps k):=by
 rw[List.find?_eq_some_iff_getElem]
 exact⟨h2,k,h1,(gP h1).symm,fun j hj=>by have:=h3 j hj;rw[gP (by omega)]at this;rw[this];rfl⟩
theorem wO {f:ai->Bool} {ps:List ai} (h:∀j,j<ps.length->f (fo ps j)=false):ps.find? f=none:=by
 rw[List.find?_eq_none]
 intro x hx
 obtain⟨j,hj,rfl⟩:=List.getElem_of_mem hx
 have:=h j hj
 rw[gP hj]at this
 simp[this]
theorem C5 (s:aB) (hP:ue s) (l:List ae) (hA:jx s.aC l):ao Tryz.prog 68 [.cr (au s),.cr [.sl (l.map ad)]] (.gx [.agg (nz (jY s l)),.bool (jY s l).isSome]):=by
 refine ao.body eG rfl fun mu n0=>?_
 clear mu
 have AJ:=hA.1.sH
 (try((repeat(revert hN;revert N;apply Pn.out));refine wk @Nat.zero_add ?_;(repeat(refine Pn.mk ?_;intro N hN))))
 refine .inr (aV _ _ _ _ _ (fun r σ1 hq=>?_) (FQ l hA.1 _))
 obtain⟨g1,x1⟩:=σ1
 obtain⟨o0,rfl,q1,q2,q3,q4,q5⟩:=hq
 (try dsimp only at q1 q2 q3 q4 q5)
 have q6:=q5 ⟨68000000,n0⟩ (by(try dsimp only);omega) trivial
 have q7:n0+1<=o0.aZ:=by rcases q4 with h|h;exact Nat.le_of_succ_le h;exact absurd trivial h
 refine hN _ _ ?_
 clear hN N
 (try((repeat(revert hN;revert N;apply Pn.out));refine wk (tw @q1 @q6) ?_;(repeat(refine Pn.mk ?_;intro N hN))))
 refine aJ (fun n env st=>∃i:Nat,n=(l.length)-i/\i<=(l.length)/\env 7=.int .i64 (i:Int)/\st.get ⟨68000000,n0⟩=some ⟨true,3,[[.int .i64 0,.int .i64 0,.int .i64 0]]⟩/\(∃o:Id,env 6=.own o 0 (dR s l i).length/\st.get o=some ⟨true,2,(dR s l i).map aa⟩/\o.aZ<st.next/\n0<o.aZ)) (l.length) ⟨0,by omega,by omega,sl @q6,sl @q6,⟨o0,by simp only[go_sem, ↓reduceIte,Nat.reduceEqDiff,Nat.reduceAdd,Nat.reduceSub,Nat.reduceLeDiff,reduceCtorEq,dR],by simp only[go_sem, ↓reduceIte,Nat.reduceEqDiff,Nat.reduceAdd,Nat.reduceSub,Nat.reduceLeDiff,reduceCtorEq,q1,dR],by(try dsimp only);omega,q7⟩⟩ ?_
 rintro n_a env_a st_a ⟨i,rfl,ale,a7,ag0,nj⟩ dv
 have a0:=dv 0 (by kernel_rfl);have a1:=dv 1 (by kernel_rfl);have a4:=dv 4 (by kernel_rfl)
 simp only[go_sem, ↓reduceIte,Nat.reduceEqDiff,Nat.reduceAdd,Nat.reduceSub,Nat.reduceLeDiff,reduceCtorEq,q6]at a0 a1 a4
 clear dv
 obtain⟨o,a6,ag,aov,Mh⟩:=nj
 have iY:=dw aov
 have fZ:((⟨68000000,n0⟩:Id)=o)=False:=eq_false fun h=>by rw[<-h]at Mh;exact Nat.lt_irrefl _ Mh
 by_cases hi:(i:Int)<(l.length:Int)
 ·have cw:∀{e:Env} {gg:Rows} {nx:Nat},(e 7=.int .i64 (IntKind.i64.wrap ((i:Int)+1)))->(gg ⟨68000000,n0⟩=some ⟨true,3,[[.int .i64 0,.int .i64 0,.int .i64 0]]⟩)->(∃o:Id,e 6=.own o 0 (dR s l (i+1)).length/\gg o=some ⟨true,2,(dR s l (i+1)).map aa⟩/\o.aZ<nx/\n0<o.aZ)->∃m0,m0<(l.length)-i/\∃i:Nat,m0=(l.length)-i/\i<=(l.length)/\e 7=.int .i64 (i:Int)/\gg ⟨68000000,n0⟩=some ⟨true,3,[[.int .i64 0,.int .i64 0,.int .i64 0]]⟩/\(∃o:Id,e 6=.own o 0 (dR s l i).length/\gg o=some ⟨true,2,(dR s l i).map aa⟩/\o.aZ<nx/\n0<o.aZ):=fun x1 x2 x3=>⟨_,by omega,i+1,rfl,by omega,(by rw[x1,ax (by omega)]),x2,x3⟩
  have fB:i<l.length:=by omega
  have jZ:=fm fB
  have OO:=FT s hP.Bw (aG l i)
  have hl:=nR s l i
  by_cases h0:fH s.bh.ah (aG l i).aF=(aG l i).aQ
  ·have iU:dR s l (i+1)=dR s l i:=by simp only[dR];rw[if_pos h0]
   rw[decide_eq_true h0]at OO
   (repeat(first|((repeat(revert hN;revert N;apply Pn.out));refine wk (tw @a7 (tw @ag0 (tw @a0 (tw @a1 (tw @a4 (tw @a6 (tw @ag (tw @hi (tw @jZ (tw @iY @ad.eq_1)))))))))) ?_;(repeat(refine Pn.mk ?_;intro N hN)))|((try apply Or.inl);refine⟨_,ao.x (OO) (sd (tw @a7 (tw @ag0 (tw @a0 (tw @a1 (tw @a4 (tw @a6 (tw @ag (tw @hi (tw @jZ (tw @iY @ad.eq_1))))))))))),?_⟩;refine hN _ _ ?_;clear hN N)))
   refine cw ?_ ?_ (by exact⟨o,sd (tw @a6 @iU),sd (tw @ag (tw @iY @iU)),by(try dsimp only);omega,Mh⟩)
   all_goals simp only[go_sem, ↓reduceIte,Nat.reduceEqDiff,Nat.reduceAdd,Nat.reduceSub,Nat.reduceLeDiff,reduceCtorEq,a7,ag0,a0,a1,a4]
  ·have iU:dR s l (i+1)=mD (dR s l i) (aG l i).aF:=by simp only[dR];rw[if_neg h0]
   rw[decide_eq_false h0]at OO
   (repeat(first|((repeat(revert hN;revert N;apply Pn.out));refine wk (tw @a7 (tw @ag0 (tw @a0 (tw @a1 (tw @a4 (tw @a6 (tw @ag (tw @hi (tw @jZ (tw @iY @ad.eq_1)))))))))) ?_;(repeat(refine Pn.mk ?_;intro N hN)))|((try apply Or.inl);refine⟨_,ao.x (OO) (sd (tw @a7 (tw @ag0 (tw @a0 (tw @a1 (tw @a4 (tw @a6 (tw @ag (tw @hi (tw @jZ (tw @iY @ad.eq_1))))))))))),?_⟩;refine hN _ _ ?_;clear hN N)))
   refine .inr (aV _ _ _ _ _ (fun r σ1 hq=>?_) (pw _ (lh s l i) (by omega) (aG l i).aF o _ (sd (tw @ag @iY)) (by(try dsimp only);omega)))
   obtain⟨g2,x2⟩:=σ1
   obtain⟨o1,rfl,p1,p2,p3,p4,p5⟩:=hq
   (try dsimp only at p1 p2 p3 p4 p5)
   have p6:=p5 ⟨68000000,n0⟩ (by(try dsimp only);omega) fZ
   refine hN _ _ ?_
   clear hN N
   (try((repeat(revert hN;revert N;apply Pn.out));refine wk (tw @a7 (tw @ag0 (tw @a0 (tw @a1 @a4)))) ?_;(repeat(refine Pn.mk ?_;intro N hN))))
   refine cw ?_ ?_ (by exact⟨o1,sd @iU,sd (tw @p1 @iU),by(try dsimp only);omega,by
    rcases p4 with h|h
    ·omega
    ·have:o1=o:=by simpa using h
     rw[this];exact Mh⟩)
   all_goals simp only[go_sem, ↓reduceIte,Nat.reduceEqDiff,Nat.reduceAdd,Nat.reduceSub,Nat.reduceLeDiff,reduceCtorEq,a7,ag0,a0,a1,a4,p6]
 have ly:i=l.length:=by omega
 subst ly
 have Ra:dR s l l.length=bW s l:=rfl
 rw[Ra]at a6 ag
 have GH:=mj s hA.1 l.length (Nat.le_refl _)
 rw[Ra]at GH
 have hlf:=nR s l l.length
 rw[Ra]at hlf
 have zY:((bW s l).map aa).length=(bW s l).length:=by simp
 clear Ra
 (try((repeat(revert hN;revert N;apply Pn.out));refine wk (tw @a7 (tw @ag0 (tw @a0 (tw @a1 (tw @a4 (tw @a6 (tw @ag @hi))))))) ?_;(repeat(refine Pn.mk ?_;intro N hN))))
 refine aJ (fun n env st=>∃k:Nat,n=((bW s l).length)-k/\k<=((bW s l).length)/\env 8=.int .i64 (k:Int)/\st.get ⟨68000000,n0⟩=some ⟨true,3,[[.int .i64 0,.int .i64 0,.int .i64 0]]⟩/\st.get o=some ⟨true,2,(bW s l).map aa⟩/\(∀j:Nat,j<k->decide (0<=ij s l (fo (bW s l) j))=false)) ((bW s l).length) ⟨0,by omega,by omega,sl (tw @a7 (tw @ag0 (tw @a0 (tw @a1 (tw @a4 (tw @a6 @ag)))))),sl (tw @a7 (tw @ag0 (tw @a0 (tw @a1 (tw @a4 (tw @a6 @ag)))))),sl (tw @a7 (tw @ag0 (tw @a0 (tw @a1 (tw @a4 (tw @a6 @ag)))))),fun _ h=>absurd h (Nat.not_lt_zero _)⟩ ?_
 rintro n_b env_b st_b ⟨k,rfl,ble,b8,bg0,bg1,bA0⟩ ej
 have b0:=ej 0 (by kernel_rfl);have b1:=ej 1 (by kernel_rfl);have b4:=ej 4 (by kernel_rfl);have b6:=ej 6 (by kernel_rfl)
 simp only[go_sem, ↓reduceIte,Nat.reduceEqDiff,Nat.reduceAdd,Nat.reduceSub,Nat.reduceLeDiff,reduceCtorEq,a7,ag0,a0,a1,a4,a6,ag]at b0 b1 b4 b6
 clear ej
 by_cases hk:(k:Int)<((bW s l).length:Int)
 ·have eL:∀{e:Env} {gg:Rows},(e 8=.int .i64 (IntKind.i64.wrap ((k:Int)+1)))->(gg ⟨68000000,n0⟩=some ⟨true,3,[[.int .i64 0,.int .i64 0,.int .i64 0]]⟩)->(gg o=some ⟨true,2,(bW s l).map aa⟩)->(decide (0<=ij s l (fo (bW s l) k))=false)->∃m0,m0<((bW s l).length)-k/\∃k:Nat,m0=((bW s l).length)-k/\k<=((bW s l).length)/\e 8=.int .i64 (k:Int)/\gg ⟨68000000,n0⟩=some ⟨true,3,[[.int .i64 0,.int .i64 0,.int .i64 0]]⟩/\gg o=some ⟨true,2,(bW s l).map aa⟩/\(∀j:Nat,j<k->decide (0<=ij s l (fo (bW s l) j))=false):=fun x1 x2 x3 x4=>⟨_,by omega,k+1,rfl,by omega,(by rw[x1,ax (by omega)]),x2,x3,(all_succ bA0 x4)⟩
  have e7:k<(bW s l).length:=by omega
  have eJ:=qQ e7
  have HT:=om (GH _ (zp e7))
  have hw:=C6 s hP l hA (fo (bW s l) k) HT.1 HT.2
  by_cases h0:0<=ij s l (fo (bW s l) k)
  ·have hf:jY s l=some (fo (bW s l) k,ij s l (fo (bW s l) k)):=by
    unfold jY
    rw[Hx e7 (decide_eq_true h0) bA0];rfl
   (repeat(first|((repeat(revert hN;revert N;apply Pn.out));refine wk (tw @b8 (tw @bg0 (tw @bg1 (tw @b0 (tw @b1 (tw @b4 (tw @b6 (tw @hk (tw @eJ (tw @h0 (tw @zY (tw @fZ @aa.eq_1)))))))))))) ?_;(repeat(refine Pn.mk ?_;intro N hN)))|((try apply Or.inl);refine⟨_,ao.x (hw) (sd (tw @b8 (tw @bg0 (tw @bg1 (tw @b0 (tw @b1 (tw @b4 (tw @b6 (tw @hk (tw @eJ (tw @h0 (tw @zY (tw @fZ @aa.eq_1))))))))))))),?_⟩;refine hN _ _ ?_;clear hN N)))
   rw[hf]
   exact jU (.inl rfl) (vs:=[.agg [.int .i64 (fo (bW s l) k).eM,.int .i64 (fo (bW s l) k).ep,.int .i64 (ij s l (fo (bW s l) k))],.bool true]) (sd (tw @b8 (tw @bg0 (tw @bg1 (tw @b0 (tw @b1 (tw @b4 @b6))))))) (by simp only[eT,nz,dM,j8,aP,bt,dU,dC,Option.map_some,Option.isSome_some])
  ·(repeat(first|((repeat(revert hN;revert N;apply Pn.out));refine wk (tw @b8 (tw @bg0 (tw @bg1 (tw @b0 (tw @b1 (tw @b4 (tw @b6 (tw @hk (tw @eJ (tw @h0 (tw @zY (tw @fZ @aa.eq_1)))))))))))) ?_;(repeat(refine Pn.mk ?_;intro N hN)))|((try apply Or.inl);refine⟨_,ao.x (hw) (sd (tw @b8 (tw @bg0 (tw @bg1 (tw @b0 (tw @b1 (tw @b4 (tw @b6 (tw @hk (tw @eJ (tw @h0 (tw @zY (tw @fZ @aa.eq_1))))))))))))),?_⟩;refine hN _ _ ?_;clear hN N)))
   refine eL ?_ ?_ ?_ (decide_eq_false h0)
   all_goals simp only[go_sem, ↓reduceIte,Nat.reduceEqDiff,Nat.reduceAdd,Nat.reduceSub,Nat.reduceLeDiff,reduceCtorEq,b8,bg0,bg1,b0,b1,b4,b6,fZ]
 ·have hf:jY s l=none:=by
   unfold jY
   rw[wO fun j hj=>bA0 j (by omega)];rfl
  (try((repeat(revert hN;revert N;apply Pn.out));refine wk (tw @b8 (tw @bg0 (tw @bg1 (tw @b0 (tw @b1 (tw @b4 (tw @b6 (tw @hk @fZ)))))))) ?_;(repeat(refine Pn.mk ?_;intro N hN))))
  rw[hf]
  exact jU (.inl rfl) (vs:=[.agg [.int .i64 0,.int .i64 0,.int .i64 0],.bool false]) (sd (tw @b8 (tw @bg0 (tw @bg1 (tw @b0 (tw @b1 (tw @b4 @b6))))))) (by simp only[eT,nz,dM,j8,aP,bt,dU,dC,Option.map_some,Option.isSome_none])
end Go.Proofs.YtgoelphibofcmaaGreat.V

namespace Go.Proofs.YtgoelphibofcmaaGreat.V
open Go.RowKit
attribute [local irreducible] dD wpOps gI Call
attribute [local go_sem] aK fW eU gE gy cE upd ck K.av cN AV.cells AV.cell rowOf rowsOf part ld rowAt bB bY dO ev iI bK db eI gr e8 dx eB cZ cY ea ec bQ aY cQ bP cU cR ez eC eA cP bV da ew bL aL cW cF iH bz cK bR aU dh aT dP AV.undef bF bG eh eu dX dY cI eH eK cD eE eD cV cX List.getD_cons_zero List.getD_cons_succ List.getD_nil List.all_cons List.all_nil Bool.and_true Bool.true_and Bool.and_self Bool.not_true Bool.not_false Option.map_some Option.map_none Option.bind_some Option.bind_none List.length_cons List.length_nil List.take_succ_cons List.take_zero List.take_nil List.drop_succ_cons List.drop_zero List.drop_nil List.head?_cons List.map_cons List.map_nil List.getElem?_cons_zero List.getElem?_cons_succ List.cons_append List.nil_append List.append_nil List.length_map List.set_cons_zero List.set_cons_succ Nat.reduceMul eq_self Int.toNat_natCast Int.natCast_nonneg and_self true_and and_true decide_true decide_false Bool.false_eq_true Nat.zero_add Nat.add_zero List.contains_cons List.contains_nil Bool.or_false Bool.false_or beq_self_eq_true Nat.reduceBEq ne_eq not_true_eq_false not_false_eq_true Id.mk.injEq false_and and_false Nat.reduceLT Int.reduceLE Int.reduceLT Int.reduceToNat Int.reduceNeg Int.reduceAdd Nat.le_refl List.length_append beq_true beq_false Bool.not_eq_eq_eq_not or_false false_or dQ aj aq aH bd bE cm aW bc aN bf cL bU
theorem vz (o:Option (ai×Int)):∃(p:ai) (t:Int),nz o=[.int .i64 p.eM,.int .i64 p.ep,.int .i64 t]:=by
 rcases o with _|⟨p,t⟩
 ·exact⟨⟨0,0⟩,0,rfl⟩
 ·exact⟨p,t,rfl⟩
theorem Cn (o:Option (ai×Int)):ao Tryz.prog 26 [.agg (nz o),.agg (nz o)] (.bool true):=by
 obtain⟨p,t,h⟩:=vz o
 rw[h]
 refine ao.body eG rfl fun hl n0=>?_
 clear hl
 have h:=xr p p
 rw[decide_eq_true rfl,aa]at h
 have e2:decide (t=t)=true:=decide_eq_true rfl
 (repeat(first|((repeat(revert hN;revert N;apply Pn.out));refine wk @e2 ?_;(repeat(refine Pn.mk ?_;intro N hN)))|((try apply Or.inl);refine⟨_,ao.x (h) (sd @e2),?_⟩;refine hN _ _ ?_;clear hN N)))
 exact aI (b:=true) (.inl rfl) (sd @Nat.zero_add) rfl
theorem FU (Ou:aB->eQ->Option (ai×Int)×Int)
  (P0:∀s a,fJ s.aC->uf s->a.ah.length<=1048576->ao Tryz.prog 24 [.agg (au s),.agg (aS a)] (.gx [.agg (nz (Ou s a).1),.int .i64 (Ou s a).2]))
  (PO:∀s a,fJ s.aC->uf s->a.ah.length<=1048576->ao Tryz.prog 25 [.agg (au s),.agg (aS a)] (.gx [.agg (nz (Ou s a).1),.int .i64 (Ou s a).2]))
  (s:aB) (a:eQ) (hn:fJ s.aC):ao Tryz.prog 5 [.agg (au s),.agg (aS a)] (.bool true):=by
 refine ao.body eG rfl fun hl n0=>?_
 clear hl
 have h1:=DG s 1048576 (by omega) (by omega) hn
 by_cases hf:(zN s:Int)<=1048576
 ·rw[iu hf]at h1
  have jI:¬(1048576:Int)-(zN s:Int)<0:=by omega
  have h2:=q9 a (1048576-zN s) (by omega) (by omega)
  by_cases hg:(a.ah.length:Int)<=1048576-zN s
  ·rw[iu hg]at h2
   have yQ:¬(1048576:Int)-(zN s:Int)-(a.ah.length:Int)<0:=by omega
   have sm:=Gh (s:=s) (by omega)
   have am:a.ah.length<=1048576:=by omega
   have t1:=DK s sm
   have t2:=rh a am
   have r1:=P0 s a hn sm am
   have r2:=PO s a hn sm am
   have q1:=Cq s
   have q2:=yE a
   obtain⟨b,hb⟩:∃b,b=(Ou s a).1:=⟨_,rfl⟩
   obtain⟨c,hc⟩:∃c,c=(Ou s a).2:=⟨_,rfl⟩
   rw[<-hb,<-hc]at r1 r2
   have q3:=Cn b
   obtain⟨p,t,GH⟩:=vz b
   rw[GH]at r1 r2 q3
   have e2:decide (c=c)=true:=by simp
   rw[au]at h1 t1 r1 r2 q1
   rw[aS]at h2 t2 r1 r2 q2
   (repeat(first|((repeat(revert hN;revert N;apply Pn.out));refine wk (tw @au.eq_1 (tw @aS.eq_1 (tw @jI (tw @yQ @e2)))) ?_;(repeat(refine Pn.mk ?_;intro N hN)))|((try apply Or.inl);refine⟨_,ao.x (h1) (sd (tw @au.eq_1 (tw @aS.eq_1 (tw @jI (tw @yQ @e2))))),?_⟩;refine hN _ _ ?_;clear hN N)|((try apply Or.inl);refine⟨_,ao.x (h2) (sd (tw @au.eq_1 (tw @aS.eq_1 (tw @jI (tw @yQ @e2))))),?_⟩;refine hN _ _ ?_;clear hN N)|((try apply Or.inl);refine⟨_,l7.x (t1) _,?_⟩;refine hN _ _ ?_;clear hN N)|((try apply Or.inl);refine⟨_,l7.x (t2) _,?_⟩;refine hN _ _ ?_;clear hN N)|((try apply Or.inl);refine⟨_,ao.x (r1) (sd (tw @au.eq_1 (tw @aS.eq_1 (tw @jI (tw @yQ @e2))))),?_⟩;refine hN _ _ ?_;clear hN N)|((try apply Or.inl);refine⟨_,ao.x (r2) (sd (tw @au.eq_1 (tw @aS.eq_1 (tw @jI (tw @yQ @e2))))),?_⟩;refine hN _ _ ?_;clear hN N)|((try apply Or.inl);refine⟨_,ao.x (q3) (sd (tw @au.eq_1 (tw @aS.eq_1 (tw @jI (tw @yQ @e2))))),?_⟩;refine hN _ _ ?_;clear hN N)|((try apply Or.inl);refine⟨_,ao.x (q1) (sd (tw @au.eq_1 (tw @aS.eq_1 (tw @jI (tw @yQ @e2))))),?_⟩;refine hN _ _ ?_;clear hN N)|((try apply Or.inl);refine⟨_,ao.x (q2) (sd (tw @au.eq_1 (tw @aS.eq_1 (tw @jI (tw @yQ @e2))))),?_⟩;refine hN _ _ ?_;clear hN N)))
   exact aI (b:=true) (.inl rfl) (sd @Nat.zero_add) rfl
  ·rw[iz hg]at h2
   rw[au]at h1
   rw[aS]at h2
   (repeat(first|((repeat(revert hN;revert N;apply Pn.out));refine wk (tw @au.eq_1 (tw @aS.eq_1 @jI)) ?_;(repeat(refine Pn.mk ?_;intro N hN)))|((try apply Or.inl);refine⟨_,ao.x (h1) (sd (tw @au.eq_1 (tw @aS.eq_1 @jI))),?_⟩;refine hN _ _ ?_;clear hN N)|((try apply Or.inl);refine⟨_,ao.x (h2) (sd (tw @au.eq_1 (tw @aS.eq_1 @jI))),?_⟩;refine hN _ _ ?_;clear hN N)))
   exact aI (b:=true) (.inl rfl) (sd @Nat.zero_add) rfl
 ·rw[iz hf]at h1
  rw[au]at h1
  (repeat(first|((repeat(revert hN;revert N;apply Pn.out));refine wk (tw @au.eq_1 @aS.eq_1) ?_;(repeat(refine Pn.mk ?_;intro N hN)))|((try apply Or.inl);refine⟨_,ao.x (h1) (sd (tw @au.eq_1 @aS.eq_1)),?_⟩;refine hN _ _ ?_;clear hN N)))
  exact aI (b:=true) (.inl rfl) (sd @Nat.zero_add) rfl
end Go.Proofs.YtgoelphibofcmaaGreat.V

namespace Go.Proofs.YtgoelphibofcmaaGreat.V
open Go.RowKit
attribute [local irreducible] dD wpOps gI Call
attribute [local go_sem] aK fW eU gE gy cE upd ck K.av cN AV.cells AV.cell rowOf rowsOf part ld rowAt bB bY dO ev iI bK db eI gr e8 dx eB cZ cY ea ec bQ aY cQ bP cU cR ez eC eA cP bV da ew bL aL cW cF iH bz cK bR aU dh aT dP AV.undef bF bG eh eu dX dY cI eH eK cD eE eD cV cX List.getD_cons_zero List.getD_cons_succ List.getD_nil List.all_cons List.all_nil Bool.and_true Bool.true_and Bool.and_self Bool.not_true Bool.not_false Option.map_some Option.map_none Option.bind_some Option.bind_none List.length_cons List.length_nil List.take_succ_cons List.take_zero List.take_nil List.drop_succ_cons List.drop_zero List.drop_nil List.head?_cons List.map_cons List.map_nil List.getElem?_cons_zero List.getElem?_cons_succ List.cons_append List.nil_append List.append_nil List.length_map List.set_cons_zero List.set_cons_succ Nat.reduceMul eq_self Int.toNat_natCast Int.natCast_nonneg and_self true_and and_true decide_true decide_false Bool.false_eq_true Nat.zero_add Nat.add_zero List.contains_cons List.contains_nil Bool.or_false Bool.false_or beq_self_eq_true Nat.reduceBEq ne_eq not_true_eq_false not_false_eq_true Id.mk.injEq false_and and_false Nat.reduceLT Int.reduceLE Int.reduceLT Int.reduceToNat Int.reduceNeg Int.reduceAdd Nat.le_refl List.length_append beq_true beq_false Bool.not_eq_eq_eq_not or_false false_or dQ aj aq aH bd bE cm aW bc aN bf cL bU
abbrev mP:MK:=⟨true,[.tI,.tI]⟩
theorem Bj (p:ai):∀(ts:List ae) (i:Nat),fN mP (aa p) (ts.map ad) i=some (if pW ts p<ts.length then some (i+pW ts p)else none)
 |[],i=>by simp[fN,pW]
 |t::ts,i=>by
  have e:e8 mP.ts (aa p) ((ad t).take mP.ks)=some (decide (p=t.aF)):=by
   have h:(p=t.aF)↔(p.eM=t.aF.eM/\p.ep=t.aF.ep):=⟨fun h=>by rw[h];exact⟨rfl,rfl⟩,fun h=>zo h.1 h.2⟩
   simp[MK.ks,aa,ad,e8,gr,h]
  have ih:=Bj p ts (i+1)
  rw[List.map_cons]
  unfold fN
  rw[e]
  by_cases h:p=t.aF
  ·rw[decide_eq_true h]
   have h0:pW (t::ts) p=0:=by simp[pW,List.findIdx_cons,h]
   simp[h0]
  ·rw[decide_eq_false h]
   have h0:pW (t::ts) p=pW ts p+1:=by
    simp[pW,List.findIdx_cons,Ne.symm h]
   simp only[ih,h0,List.length_cons,Nat.add_lt_add_iff_right]
   congr 1
   split<;>simp;omega
theorem xS (ts:List ae) (p:ai):fE mP (.agg [.int .i64 p.eM,.int .i64 p.ep]) (ts.map ad)=some (if 0<=ek ts p then some (ek ts p).toNat else none):=by
 have h:=Bj p ts 0
 unfold fE
 rw[if_pos ⟨rfl,rfl,rfl⟩]
 show fN mP (aa p) _ 0= _
 rw[h]
 unfold ek
 split<;>simp
theorem FY {ts:List ae} {p:ai} (h:0<=ek ts p):fE mP (.agg [.int .i64 p.eM,.int .i64 p.ep]) (ts.map ad)=some (some (ek ts p).toNat):=by rw[xS,if_pos h]
theorem vh {ts:List ae} {p:ai} (h:ek ts p<0):fE mP (.agg [.int .i64 p.eM,.int .i64 p.ep]) (ts.map ad)=some none:=by rw[xS,if_neg (by omega)]
structure BR (g:Rows) (n:Nat) (c T O:Id) (s:aB) (ts:List ae):Prop where
 row:∃b,g c=some ⟨b,6,[[.sl (s.aC.aA.map bZ),.sl (s.aC.ah.map bj),.sl (s.bh.ah.map ad),.int .i64 s.az,.map T mP,.map O mP]]⟩
 tl:∃b,g T=some ⟨b,mP.nA,ts.map ad⟩
 cv:c.aZ<n
 tv:T.aZ<n
 ov:O.aZ<n
theorem BR.ro {g:Rows} {n:Nat} {c T O:Id} {s:aB} {ts:List ae} (h:BR g n c T O s ts):BR (V.ro g) n c T O s ts:=by
 obtain⟨b,h1⟩:=h.row
 obtain⟨b2,h2⟩:=h.tl
 exact⟨⟨false,by simp[V.ro,h1]⟩,⟨false,by simp[V.ro,h2]⟩,h.cv,h.tv,h.ov⟩
theorem BR.frame {g g':Rows} {n n':Nat} {c T O:Id} {s:aB} {ts:List ae} (h:BR g n c T O s ts) (hn:n<=n') (hc:g' c=g c) (hT:g' T=g T):BR g' n' c T O s ts:=
 ⟨by rw[hc];exact h.row,by rw[hT];exact h.tl,Nat.lt_of_lt_of_le h.cv hn,Nat.lt_of_lt_of_le h.tv hn,Nat.lt_of_lt_of_le h.ov hn⟩
theorem RQ {σ:ar} {c T O:Id} {s:aB} {ts:List ae} (h:BR σ.get σ.next c T O s ts) (p:ai):Call Tryz.prog 121 [.ptr c 0 0,.agg (aa p)] σ (fun r _=>r=.int .i64 (fH ts p)):=by
 refine gW eG rfl fun mu=>?_
 clear mu
 obtain⟨b,h1⟩:=h.row
 obtain⟨b2,h2⟩:=h.tl
 have v1:=dw h.cv
 have v2:=dw h.tv
 by_cases h0:0<=ek ts p
 ·have hm:=FY h0
  have hg:=fm (mv h0).1
  have ho:(some (ek ts p).toNat).isSome=true:=rfl
  (try((repeat(revert hN;revert N;apply Pn.out));refine wk (tw @h1 (tw @h2 (tw @v1 (tw @v2 (tw @hm (tw @hg (tw @ho (tw @aa.eq_1 @ad.eq_1)))))))) ?_;(repeat(refine Pn.mk ?_;intro N hN))))
  exact gK (.inl rfl) (vs:=[.int .i64 (aG ts (ek ts p).toNat).aQ]) (sd @Nat.zero_add) (by rw[fH,if_pos h0];rfl)
 ·have hm:=vh (ts:=ts) (p:=p) (by omega)
  have ho:(none:Option Nat).isSome=false:=rfl
  (try((repeat(revert hN;revert N;apply Pn.out));refine wk (tw @h1 (tw @h2 (tw @v1 (tw @v2 (tw @hm (tw @ho @aa.eq_1)))))) ?_;(repeat(refine Pn.mk ?_;intro N hN))))
  exact gK (.inl rfl) (vs:=[.int .i64 (-1)]) (sd @Nat.zero_add) (by rw[fH,if_neg h0];rfl)
theorem Mj {σ:ar} {c T O:Id} {s:aB} {ts:List ae} (h:BR σ.get σ.next c T O s ts) (p:ai):gI (Call Tryz.prog) 121 [.ptr c 0 0,.agg (aa p)] σ (fun r=>r=.int .i64 (fH ts p)):=by
 unfold gI PC
 exact Or.inl (aV _ _ _ _ _ (fun r σ' hr=>⟨_,by rw[hr];exact aH _ _ _ _,rfl⟩) (RQ (σ:=⟨V.ro σ.get,σ.next⟩) h.ro p))
theorem E5 {σ:ar} (s:aw) (hS:gZ s) (F:ai->Int) (hF:∀q,0<=F q->eP s (F q)=true) (p:ai) (hx:iB p.eM) (hy:iB p.ep) (t:Int) (ht:eP s t=true) (f:Nat) (first:List AV)
  (wv:∀σ':ar,σ.next<=σ'.next->(∀x:Id,x.aZ<σ.next->σ'.get x=σ.get x)->∀q,gI (Call Tryz.prog) f (first++[.agg (aa q)]) σ' (fun r=>r=.int .i64 (F q))):
  Call Tryz.prog 120 [.agg (ab s),.agg (aa p),.int .i64 t,.sV f first] σ (fun r _=>r=.int .i64 (nM s F p t)):=by
 refine gW eG rfl fun mu=>?_
 clear mu
 (try((repeat(revert hN;revert N;apply Pn.out));refine wk (tw @aa.eq_1 @ab.eq_1) ?_;(repeat(refine Pn.mk ?_;intro N hN))))
 refine aJ (fun n env st=>∃k:Nat,n=(4)-k/\k<=(4)/\env 12=.int .i64 (k:Int)/\env 9=.int .i64 (dE s F p t k)/\st.get ⟨120000000,σ.next⟩=some ⟨true,2,[ab s]⟩/\st.get ⟨120000001,σ.next⟩=some ⟨true,2,[aa p]⟩/\(σ.next<st.next/\∀x:Id,x.aZ<σ.next->st.get x=σ.get x)) (4) ⟨0,by omega,by omega,sl (tw @aa.eq_1 @ab.eq_1),sl (tw @aa.eq_1 @ab.eq_1),sl (tw @aa.eq_1 @ab.eq_1),sl (tw @aa.eq_1 @ab.eq_1),⟨by(try dsimp only);omega,fun x hx=>by
  have:=dw hx
  simp only[go_sem, ↓reduceIte,Nat.reduceEqDiff,Nat.reduceAdd,Nat.reduceSub,Nat.reduceLeDiff,reduceCtorEq,this]⟩⟩ ?_
 rintro n_a env_a st_a ⟨k,rfl,ale,a12,a9,ag0,ag1,nj⟩ dv
 have a2:=dv 2 (by kernel_rfl);have a3:=dv 3 (by kernel_rfl);have a4:=dv 4 (by kernel_rfl);have a5:=dv 5 (by kernel_rfl)
 simp only[go_sem, ↓reduceIte,Nat.reduceEqDiff,Nat.reduceAdd,Nat.reduceSub,Nat.reduceLeDiff,reduceCtorEq,aa,ab]at a2 a3 a4 a5
 clear dv
 obtain⟨an,dv⟩:=nj
 by_cases hk:(k:Int)<4
 ·have cw:∀{e:Env} {gg:Rows} {nx:Nat},(e 12=.int .i64 (IntKind.i64.wrap ((k:Int)+1)))->(e 9=.int .i64 (dE s F p t (k+1)))->(gg ⟨120000000,σ.next⟩=some ⟨true,2,[ab s]⟩)->(gg ⟨120000001,σ.next⟩=some ⟨true,2,[aa p]⟩)->(σ.next<nx/\∀x:Id,x.aZ<σ.next->gg x=σ.get x)->∃m0,m0<(4)-k/\∃k:Nat,m0=(4)-k/\k<=(4)/\e 12=.int .i64 (k:Int)/\e 9=.int .i64 (dE s F p t k)/\gg ⟨120000000,σ.next⟩=some ⟨true,2,[ab s]⟩/\gg ⟨120000001,σ.next⟩=some ⟨true,2,[aa p]⟩/\(σ.next<nx/\∀x:Id,x.aZ<σ.next->gg x=σ.get x):=fun x1 x2 x3 x4 x5=>⟨_,by omega,k+1,rfl,by omega,(by rw[x1,ax (by omega)]),x2,x3,x4,x5⟩
  have dc:=vZ p k (jg (by omega)) hx hy
  have fB:=jN hS F p t k
  (repeat(first|((repeat(revert hN;revert N;apply Pn.out));refine wk (tw @a12 (tw @a9 (tw @ag0 (tw @ag1 (tw @a2 (tw @a3 (tw @a4 (tw @a5 (tw @hk @aa.eq_1))))))))) ?_;(repeat(refine Pn.mk ?_;intro N hN)))|((try apply Or.inl);refine⟨_,ao.x (dc) (sd (tw @a12 (tw @a9 (tw @ag0 (tw @ag1 (tw @a2 (tw @a3 (tw @a4 (tw @a5 (tw @hk @aa.eq_1)))))))))),?_⟩;refine hN _ _ ?_;clear hN N)))
  refine .inl ⟨_,wv _ (by(try dsimp only);omega) (fun x hx=>sd (dv x hx)) (bJ p k),?_⟩
  refine hN _ _ ?_
  clear hN N
  by_cases h0:0<=F (bJ p k)
  ·have tj:=Hg s hS.form t k (F (bJ p k)) ht (hF _ h0) (jg (by omega))
   have fw:=ui hS t k (F (bJ p k))
   have hw:IntKind.i64.wrap (dE s F p t k+gJ s t k (F (bJ p k)))=dE s F p t (k+1):=by
    rw[bp (by omega),dE,if_pos h0]
   rw[ab]at tj
   (repeat(first|((repeat(revert hN;revert N;apply Pn.out));refine wk (tw @a12 (tw @a9 (tw @ag0 (tw @ag1 (tw @a2 (tw @a3 (tw @a4 (tw @a5 (tw @h0 @ab.eq_1))))))))) ?_;(repeat(refine Pn.mk ?_;intro N hN)))|((try apply Or.inl);refine⟨_,ao.x (tj) (sd (tw @a12 (tw @a9 (tw @ag0 (tw @ag1 (tw @a2 (tw @a3 (tw @a4 (tw @a5 (tw @h0 @ab.eq_1)))))))))),?_⟩;refine hN _ _ ?_;clear hN N)))
   refine cw ?_ ?_ ?_ ?_ (⟨by(try dsimp only);omega,fun x hx=>by
    have h1:=dv x hx
    simp only[go_sem, ↓reduceIte,Nat.reduceEqDiff,Nat.reduceAdd,Nat.reduceSub,Nat.reduceLeDiff,reduceCtorEq,h1]⟩)
   all_goals simp only[go_sem, ↓reduceIte,Nat.reduceEqDiff,Nat.reduceAdd,Nat.reduceSub,Nat.reduceLeDiff,reduceCtorEq,a12,a9,ag0,ag1,a2,a3,a4,a5,hw,aa,ab]
  ·have hw:dE s F p t (k+1)=dE s F p t k:=by rw[dE,if_neg h0,Int.add_zero]
   (try((repeat(revert hN;revert N;apply Pn.out));refine wk (tw @a12 (tw @a9 (tw @ag0 (tw @ag1 (tw @a2 (tw @a3 (tw @a4 (tw @a5 @h0)))))))) ?_;(repeat(refine Pn.mk ?_;intro N hN))))
   refine cw ?_ ?_ ?_ ?_ (⟨by(try dsimp only);omega,fun x hx=>by
    have h1:=dv x hx
    simp only[go_sem, ↓reduceIte,Nat.reduceEqDiff,Nat.reduceAdd,Nat.reduceSub,Nat.reduceLeDiff,reduceCtorEq,h1]⟩)
   all_goals simp only[go_sem, ↓reduceIte,Nat.reduceEqDiff,Nat.reduceAdd,Nat.reduceSub,Nat.reduceLeDiff,reduceCtorEq,a12,a9,ag0,ag1,a2,a3,a4,a5,hw,aa,ab]
 ·(try((repeat(revert hN;revert N;apply Pn.out));refine wk (tw @a12 (tw @a9 (tw @ag0 (tw @ag1 (tw @a2 (tw @a3 (tw @a4 (tw @a5 @hk)))))))) ?_;(repeat(refine Pn.mk ?_;intro N hN))))
  exact gK (.inl rfl) (vs:=[.int .i64 (dE s F p t k)]) (sd (tw @a12 (tw @a9 (tw @ag0 (tw @ag1 (tw @a2 (tw @a3 (tw @a4 @a5)))))))) (by rw[show k=4 by omega];rfl)
end Go.Proofs.YtgoelphibofcmaaGreat.V

namespace Go.Proofs.YtgoelphibofcmaaGreat.V
open Go.RowKit
attribute [local irreducible] dD wpOps gI Call
attribute [local go_sem] aK fW eU gE gy cE upd ck K.av cN AV.cells AV.cell rowOf rowsOf part ld rowAt bB bY dO ev iI bK db eI gr e8 dx eB cZ cY ea ec bQ aY cQ bP cU cR ez eC eA cP bV da ew bL aL cW cF iH bz cK bR aU dh aT dP AV.undef bF bG eh eu dX dY cI eH eK cD eE eD cV cX List.getD_cons_zero List.getD_cons_succ List.getD_nil List.all_cons List.all_nil Bool.and_true Bool.true_and Bool.and_self Bool.not_true Bool.not_false Option.map_some Option.map_none Option.bind_some Option.bind_none List.length_cons List.length_nil List.take_succ_cons List.take_zero List.take_nil List.drop_succ_cons List.drop_zero List.drop_nil List.head?_cons List.map_cons List.map_nil List.getElem?_cons_zero List.getElem?_cons_succ List.cons_append List.nil_append List.append_nil List.length_map List.set_cons_zero List.set_cons_succ Nat.reduceMul eq_self Int.toNat_natCast Int.natCast_nonneg and_self true_and and_true decide_true decide_false Bool.false_eq_true Nat.zero_add Nat.add_zero List.contains_cons List.contains_nil Bool.or_false Bool.false_or beq_self_eq_true Nat.reduceBEq ne_eq not_true_eq_false not_false_eq_true Id.mk.injEq false_and and_false Nat.reduceLT Int.reduceLE Int.reduceLT Int.reduceToNat Int.reduceNeg Int.reduceAdd Nat.le_refl List.length_append beq_true beq_false Bool.not_eq_eq_eq_not or_false false_or dQ aj aq aH bd bE cm aW bc aN bf cL bU
noncomputable def yG (s:aB) (ts:List ae) (p:ai) (t:Int):Bool:=r8 p&&decide (fH ts p<0)&&decide (s.az<=nM s.aC (fH ts) p t)
theorem xi {σ:ar} {c T O:Id} {s:aB} {ts:List ae} (h:BR σ.get σ.next c T O s ts) (hS:gZ s.aC) (hF:∀q,0<=fH ts q->eP s.aC (fH ts q)=true) (p:ai) (hx:iB p.eM) (hy:iB p.ep) (t:Int) (ht:eP s.aC t=true):
  gI (Call Tryz.prog) 120 [.agg (ab s.aC),.agg (aa p),.int .i64 t,.sV 121 [.ptr c 0 0]] σ (fun r=>r=.int .i64 (nM s.aC (fH ts) p t)):=by
 unfold gI PC
 exact Or.inl (aV _ _ _ _ _ (fun r σ' hr=>⟨_,by rw[hr];exact aH _ _ _ _,rfl⟩) (E5 (σ:=⟨V.ro σ.get,σ.next⟩) s.aC hS (fH ts) hF p hx hy t ht _ _
  (fun σ' hn hk q=>Mj (h.ro.frame hn (hk _ h.cv) (hk _ h.tv)) q)))
theorem My {σ:ar} {c T O:Id} {s:aB} {ts:List ae} (h:BR σ.get σ.next c T O s ts) (hS:gZ s.aC) (hF:∀q,0<=fH ts q->eP s.aC (fH ts q)=true) (p:ai) (t:Int) (ht:eP s.aC t=true):
  Call Tryz.prog 133 [.ptr c 0 0,.agg (aa p),.int .i64 t] σ (fun r _=>r=.bool (yG s ts p t)):=by
 refine gW eG rfl fun mu=>?_
 clear mu
 obtain⟨b,h1⟩:=h.row
 have v1:=dw h.cv
 have hw:=j7 p
 have v2:=dw h.tv
 by_cases h0:r8 p=true
 ·rw[h0]at hw
  obtain⟨hx,hy⟩:=om h0
  by_cases h2:fH ts p<0
  ·(repeat(first|((repeat(revert hN;revert N;apply Pn.out));refine wk (tw @h1 (tw @v1 (tw @h2 @aa.eq_1))) ?_;(repeat(refine Pn.mk ?_;intro N hN)))|((try apply Or.inl);refine⟨_,ao.x (hw) (sd (tw @h1 (tw @v1 (tw @h2 @aa.eq_1)))),?_⟩;refine hN _ _ ?_;clear hN N)))
   refine⟨_,Mj (h.frame (by(try dsimp only);omega) (sd @v1) (sd @v2)) p,?_⟩
   refine hN _ _ ?_
   clear hN N
   (repeat(first|((repeat(revert hN;revert N;apply Pn.out));refine wk (tw @h1 (tw @v1 (tw @h2 (tw @aa.eq_1 @ab.eq_1)))) ?_;(repeat(refine Pn.mk ?_;intro N hN)))|((try apply Or.inl);refine⟨_,ao.x (hw) (sd (tw @h1 (tw @v1 (tw @h2 (tw @aa.eq_1 @ab.eq_1))))),?_⟩;refine hN _ _ ?_;clear hN N)))
   refine⟨_,xi (h.frame (by(try dsimp only);omega) (sd @v1) (sd @v2)) hS hF p hx hy t ht,?_⟩
   refine hN _ _ ?_
   clear hN N
   have hb:=jN hS (fH ts) p t 4
   (repeat(first|((repeat(revert hN;revert N;apply Pn.out));refine wk (tw @h1 (tw @v1 (tw @h2 (tw @aa.eq_1 @ab.eq_1)))) ?_;(repeat(refine Pn.mk ?_;intro N hN)))|((try apply Or.inl);refine⟨_,ao.x (hw) (sd (tw @h1 (tw @v1 (tw @h2 (tw @aa.eq_1 @ab.eq_1))))),?_⟩;refine hN _ _ ?_;clear hN N)))
   exact gK (.inl rfl) (vs:=[.bool (decide (s.az<=nM s.aC (fH ts) p t))]) (sd @Nat.zero_add) (by rw[show yG s ts p t=decide (s.az<=nM s.aC (fH ts) p t) by simp[yG,h0,h2]];rfl)
  ·(repeat(first|((repeat(revert hN;revert N;apply Pn.out));refine wk (tw @h1 (tw @v1 (tw @h2 @aa.eq_1))) ?_;(repeat(refine Pn.mk ?_;intro N hN)))|((try apply Or.inl);refine⟨_,ao.x (hw) (sd (tw @h1 (tw @v1 (tw @h2 @aa.eq_1)))),?_⟩;refine hN _ _ ?_;clear hN N)))
   refine⟨_,Mj (h.frame (by(try dsimp only);omega) (sd @v1) (sd @v2)) p,?_⟩
   refine hN _ _ ?_
   clear hN N
   (repeat(first|((repeat(revert hN;revert N;apply Pn.out));refine wk (tw @h1 (tw @v1 (tw @h2 @aa.eq_1))) ?_;(repeat(refine Pn.mk ?_;intro N hN)))|((try apply Or.inl);refine⟨_,ao.x (hw) (sd (tw @h1 (tw @v1 (tw @h2 @aa.eq_1)))),?_⟩;refine hN _ _ ?_;clear hN N)))
   exact gK (.inl rfl) (vs:=[.bool false]) (sd @Nat.zero_add) (by rw[show yG s ts p t=false by simp[yG,h2]];rfl)
 ·rw[Bool.not_eq_true]at h0
  rw[h0]at hw
  (repeat(first|((repeat(revert hN;revert N;apply Pn.out));refine wk (tw @h1 (tw @v1 @aa.eq_1)) ?_;(repeat(refine Pn.mk ?_;intro N hN)))|((try apply Or.inl);refine⟨_,ao.x (hw) (sd (tw @h1 (tw @v1 @aa.eq_1))),?_⟩;refine hN _ _ ?_;clear hN N)))
  exact gK (.inl rfl) (vs:=[.bool false]) (sd @Nat.zero_add) (by rw[show yG s ts p t=false by simp[yG,h0]];rfl)
end Go.Proofs.YtgoelphibofcmaaGreat.V

namespace Go.Proofs.YtgoelphibofcmaaGreat.V
open Go.RowKit
attribute [local irreducible] dD wpOps gI Call
attribute [local go_sem] aK fW eU gE gy cE upd ck K.av cN AV.cells AV.cell rowOf rowsOf part ld rowAt bB bY dO ev iI bK db eI gr e8 dx eB cZ cY ea ec bQ aY cQ bP cU cR ez eC eA cP bV da ew bL aL cW cF iH bz cK bR aU dh aT dP AV.undef bF bG eh eu dX dY cI eH eK cD eE eD cV cX List.getD_cons_zero List.getD_cons_succ List.getD_nil List.all_cons List.all_nil Bool.and_true Bool.true_and Bool.and_self Bool.not_true Bool.not_false Option.map_some Option.map_none Option.bind_some Option.bind_none List.length_cons List.length_nil List.take_succ_cons List.take_zero List.take_nil List.drop_succ_cons List.drop_zero List.drop_nil List.head?_cons List.map_cons List.map_nil List.getElem?_cons_zero List.getElem?_cons_succ List.cons_append List.nil_append List.append_nil List.length_map List.set_cons_zero List.set_cons_succ Nat.reduceMul eq_self Int.toNat_natCast Int.natCast_nonneg and_self true_and and_true decide_true decide_false Bool.false_eq_true Nat.zero_add Nat.add_zero List.contains_cons List.contains_nil Bool.or_false Bool.false_or beq_self_eq_true Nat.reduceBEq ne_eq not_true_eq_false not_false_eq_true Id.mk.injEq false_and and_false Nat.reduceLT Int.reduceLE Int.reduceLT Int.reduceToNat Int.reduceNeg Int.reduceAdd Nat.le_refl List.length_append beq_true beq_false Bool.not_eq_eq_eq_not or_false false_or dQ aj aq aH bd bE cm aW bc aN bf cL bU
def OW (rows:List (List AV)):Prop:=∀r∈rows,∃(x y:Int) (v:AV),r=[.int .i64 x,.int .i64 y,v]
theorem ED (x y:Int):∀(rows:List (List AV)) (i:Nat),OW rows->∃fi,fN mP [.int .i64 x,.int .i64 y] rows i=some fi
 |[],i,_=>⟨none,by simp[fN]⟩
 |r::rs,i,h=>by
  obtain⟨fi,hf⟩:=ED x y rs (i+1) fun r hr=>h r (by simp[hr])
  obtain⟨x',y',v,rfl⟩:=h r (by simp)
  unfold fN
  have e:e8 mP.ts [.int .i64 x,.int .i64 y] (([.int .i64 x',.int .i64 y',v]:List AV).take mP.ks)=some (decide (x=x')&&decide (y=y')):=by
   simp[MK.ks,e8,gr]
  rw[e]
  cases decide (x=x')&&decide (y=y')
  ·exact⟨fi,hf⟩
  ·exact⟨some i,rfl⟩
theorem Iw {rows:List (List AV)} (h:OW rows) (x y:Int):∃fi,fE mP (.agg [.int .i64 x,.int .i64 y]) rows=some fi:=by
 unfold fE
 rw[if_pos ⟨rfl,rfl,rfl⟩]
 exact ED x y rows 0 h
theorem NH {rows:List (List AV)} (h:OW rows) (x y:Int) (v:AV) (fi:Option Nat):OW (dX rows [.int .i64 x,.int .i64 y,v] fi):=by
 intro r hr
 cases fi with
 |none=>
  rcases List.mem_append.1 (show r∈rows++[_]from hr)with h1|h1
  ·exact h r h1
  ·simp at h1;exact⟨x,y,v,h1⟩
 |some i=>
  rcases List.mem_or_eq_of_mem_set (show r∈rows.set i _ from hr)with h1|h1
  ·exact h r h1
  ·exact⟨x,y,v,h1⟩
theorem NF {rows:List (List AV)} (h:OW rows) (fi:Option Nat):OW (dY rows fi):=by
 intro r hr
 cases fi with
 |none=>exact h r (by simpa[dY]using hr)
 |some i=>exact h r (List.mem_of_mem_eraseIdx (by simpa[dY]using hr))
def iA (σ:ar) (O:Id) (g:Rows) (n:Nat):Prop:=σ.next<=n/\(∀x:Id,x.aZ<σ.next->x≠O->g x=σ.get x)/\∃rows,g O=some ⟨true,mP.nA,rows⟩/\OW rows
theorem iA.D7 {σ:ar} {g:Rows} {n:Nat} {c T O:Id} {s:aB} {ts:List ae} (h:BR σ.get σ.next c T O s ts) (hc:c≠O) (hT:T≠O) (k:iA σ O g n):BR g n c T O s ts:=
 h.frame k.1 (k.2.1 _ h.cv hc) (k.2.1 _ h.tv hT)
theorem iA.trans {a b:ar} {O:Id} {g:Rows} {n:Nat} (h:iA a O b.get b.next) (k:iA b O g n):iA a O g n:=
 ⟨Nat.le_trans h.1 k.1,fun x hx hO=>(k.2.1 x (Nat.lt_of_lt_of_le hx h.1) hO).trans (h.2.1 x hx hO),k.2.2⟩
theorem iA.frame {a:ar} {O:Id} {g g':Rows} {n n' m:Nat} (h:iA a O g n) (ha:a.next<=m) (ho:O.aZ<m) (hn:n<=n') (hf:∀x:Id,x.aZ<m->g' x=g x):iA a O g' n':=by
 refine⟨Nat.le_trans h.1 hn,fun x hx hO=>(hf x (Nat.lt_of_lt_of_le hx ha)).trans (h.2.1 x hx hO),?_⟩
 obtain⟨rows,h1,h2⟩:=h.2.2
 exact⟨rows,(hf O ho).trans h1,h2⟩
theorem iA.write {a:ar} {O:Id} {g g':Rows} {n n':Nat} (h:iA a O g n) (hn:n<=n') (hf:∀x:Id,x.aZ<a.next->x≠O->g' x=g x) {rows:List (List AV)} (ho:g' O=some ⟨true,mP.nA,rows⟩) (hw:OW rows):iA a O g' n':=
 ⟨Nat.le_trans h.1 hn,fun x hx hO=>(hf x hx hO).trans (h.2.1 x hx hO),rows,ho,hw⟩
theorem Mz {σ:ar} {c T O:Id} {s:aB} {ts:List ae} (h:BR σ.get σ.next c T O s ts) (hS:gZ s.aC) (hF:∀q,0<=fH ts q->eP s.aC (fH ts q)=true) (p:ai) (t:Int) (ht:eP s.aC t=true):
  gI (Call Tryz.prog) 133 [.ptr c 0 0,.agg (aa p),.int .i64 t] σ (fun r=>r=.bool (yG s ts p t)):=by
 unfold gI PC
 exact Or.inl (aV _ _ _ _ _ (fun r σ' hr=>⟨_,by rw[hr];exact bd _ _ _,rfl⟩) (My (σ:=⟨V.ro σ.get,σ.next⟩) h.ro hS hF p t ht))
theorem y6 {σ:ar} {c T O:Id} {s:aB} {ts:List ae} (h:BR σ.get σ.next c T O s ts) (hc:c≠O) (hT:T≠O) (hO:∃rows,σ.get O=some ⟨true,mP.nA,rows⟩/\OW rows) (hS:gZ s.aC) (hF:∀q,0<=fH ts q->eP s.aC (fH ts q)=true) (p:ai) (hx:iB p.eM) (hy:iB p.ep):
  Call Tryz.prog 127 [.ptr c 0 0,.agg (aa p)] σ (fun r σ'=>r=.gx []/\iA σ O σ'.get σ'.next):=by
 refine gW eG rfl fun mu=>?_
 clear mu
 have JG:=hS.BE
 have h0:iA σ O σ.get σ.next:=⟨Nat.le_refl _,fun _ _ _=>rfl,hO⟩
 (try((repeat(revert hN;revert N;apply Pn.out));refine wk @aa.eq_1 ?_;(repeat(refine Pn.mk ?_;intro N hN))))
 refine aJ (fun n env st=>∃k:Nat,n=(4)-k/\k<=(4)/\env 8=.int .i64 (k:Int)/\st.get ⟨127000000,σ.next⟩=some ⟨true,2,[aa p]⟩/\(σ.next<st.next/\iA σ O st.get st.next)) (4) ⟨0,by omega,by omega,sl @aa.eq_1,sl @aa.eq_1,⟨by(try dsimp only);omega,h0.frame (Nat.le_refl _) h.ov (by(try dsimp only);omega) fun x hx=>by
  have:=dw hx
  simp only[go_sem, ↓reduceIte,Nat.reduceEqDiff,Nat.reduceAdd,Nat.reduceSub,Nat.reduceLeDiff,reduceCtorEq,this]⟩⟩ ?_
 rintro n_a env_a st_a ⟨k,rfl,ale,a8,ag0,nj⟩ dv
 have a0:=dv 0 (by kernel_rfl);have a3:=dv 3 (by kernel_rfl)
 simp only[go_sem, ↓reduceIte,Nat.reduceEqDiff,Nat.reduceAdd,Nat.reduceSub,Nat.reduceLeDiff,reduceCtorEq,aa]at a0 a3
 clear dv
 obtain⟨an,ak⟩:=nj
 have ha:=ak.D7 h hc hT
 by_cases hk:(k:Int)<4
 ·have cw:∀{e:Env} {gg:Rows} {nx:Nat},(e 8=.int .i64 (IntKind.i64.wrap ((k:Int)+1)))->(gg ⟨127000000,σ.next⟩=some ⟨true,2,[aa p]⟩)->(σ.next<nx/\iA σ O gg nx)->∃m0,m0<(4)-k/\∃k:Nat,m0=(4)-k/\k<=(4)/\e 8=.int .i64 (k:Int)/\gg ⟨127000000,σ.next⟩=some ⟨true,2,[aa p]⟩/\(σ.next<nx/\iA σ O gg nx):=fun x1 x2 x3=>⟨_,by omega,k+1,rfl,by omega,(by rw[x1,ax (by omega)]),x2,x3⟩
  have dc:=vZ p k (jg (by omega)) hx hy
  obtain⟨b,h1⟩:=ha.row
  have v1:=dw ha.cv
  (repeat(first|((repeat(revert hN;revert N;apply Pn.out));refine wk (tw @a8 (tw @ag0 (tw @a0 (tw @a3 (tw @hk (tw @h1 (tw @v1 @aa.eq_1))))))) ?_;(repeat(refine Pn.mk ?_;intro N hN)))|((try apply Or.inl);refine⟨_,ao.x (dc) (sd (tw @a8 (tw @ag0 (tw @a0 (tw @a3 (tw @hk (tw @h1 (tw @v1 @aa.eq_1)))))))),?_⟩;refine hN _ _ ?_;clear hN N)))
  refine aJ (fun n env st=>∃t:Nat,n=(s.aC.ah.length)-t/\t<=(s.aC.ah.length)/\env 21=.int .i64 (t:Int)/\st.get ⟨127000000,σ.next⟩=some ⟨true,2,[aa p]⟩/\st.get ⟨127004003,st_a.next+1+1⟩=some ⟨true,2,[aa (bJ p k)]⟩/\(st_a.next+3<=st.next/\iA σ O st.get st.next/\(env 6=.cj∨∃(o:Id) (n:Nat) (rows:List (List AV)),env 6=.own o 0 n/\st.get o=some ⟨true,1,rows⟩/\rows.length=n/\0<n/\n<=t/\st_a.next+3<=o.aZ/\o.aZ<st.next))) (s.aC.ah.length) ⟨0,by omega,by omega,sl (tw @a8 (tw @ag0 (tw @a0 (tw @a3 @aa.eq_1)))),sl (tw @a8 (tw @ag0 (tw @a0 (tw @a3 @aa.eq_1)))),sl (tw @a8 (tw @ag0 (tw @a0 (tw @a3 @aa.eq_1)))),⟨by(try dsimp only);omega,ak.frame ak.1 ha.ov (by(try dsimp only);omega) fun x hx=>(by
   have:=dw hx
   simp only[go_sem, ↓reduceIte,Nat.reduceEqDiff,Nat.reduceAdd,Nat.reduceSub,Nat.reduceLeDiff,reduceCtorEq,this]),.inl (sd @Nat.zero_add)⟩⟩ ?_
  rintro n_b env_b st_b ⟨t,rfl,ble,b21,bg0,bg1,bI0⟩ ej
  have b0:=ej 0 (by kernel_rfl);have b3:=ej 3 (by kernel_rfl);have b5:=ej 5 (by kernel_rfl);have b8:=ej 8 (by kernel_rfl);have pk:=ej 20 (by kernel_rfl)
  simp only[go_sem, ↓reduceIte,Nat.reduceEqDiff,Nat.reduceAdd,Nat.reduceSub,Nat.reduceLeDiff,reduceCtorEq,a8,ag0,a0,a3,aa]at b0 b3 b5 b8 pk
  clear ej
  obtain⟨bn,bk,b6⟩:=bI0
  have M0:=bk.D7 h hc hT
  obtain⟨b2,h2⟩:=M0.row
  have v2:=dw M0.cv
  have vt:=dw (i:=⟨127000000,σ.next⟩) (n:=st_b.next) (by(try dsimp only);omega)
  have vq:=dw (i:=⟨127004003,st_a.next+1+1⟩) (n:=st_b.next) (by(try dsimp only);omega)
  by_cases ht:(t:Int)<(s.aC.ah.length:Int)
  ·have eL:∀{e:Env} {gg:Rows} {nx:Nat},(e 21=.int .i64 (IntKind.i64.wrap ((t:Int)+1)))->(gg ⟨127000000,σ.next⟩=some ⟨true,2,[aa p]⟩)->(gg ⟨127004003,st_a.next+1+1⟩=some ⟨true,2,[aa (bJ p k)]⟩)->(st_a.next+3<=nx/\iA σ O gg nx/\(e 6=.cj∨∃(o:Id) (n:Nat) (rows:List (List AV)),e 6=.own o 0 n/\gg o=some ⟨true,1,rows⟩/\rows.length=n/\0<n/\n<=(t+1)/\st_a.next+3<=o.aZ/\o.aZ<nx))->∃m0,m0<(s.aC.ah.length)-t/\∃t:Nat,m0=(s.aC.ah.length)-t/\t<=(s.aC.ah.length)/\e 21=.int .i64 (t:Int)/\gg ⟨127000000,σ.next⟩=some ⟨true,2,[aa p]⟩/\gg ⟨127004003,st_a.next+1+1⟩=some ⟨true,2,[aa (bJ p k)]⟩/\(st_a.next+3<=nx/\iA σ O gg nx/\(e 6=.cj∨∃(o:Id) (n:Nat) (rows:List (List AV)),e 6=.own o 0 n/\gg o=some ⟨true,1,rows⟩/\rows.length=n/\0<n/\n<=t/\st_a.next+3<=o.aZ/\o.aZ<nx)):=fun x1 x2 x3 x4=>⟨_,by omega,t+1,rfl,by omega,(by rw[x1,ax (by omega)]),x2,x3,x4⟩
   have Ns:t<s.aC.ah.length:=by omega
   (try((repeat(revert hN;revert N;apply Pn.out));refine wk (tw @b21 (tw @bg0 (tw @bg1 (tw @b0 (tw @b3 (tw @b5 (tw @b8 (tw @pk (tw @ht (tw @h2 (tw @v2 (tw @vt (tw @vq @aa.eq_1))))))))))))) ?_;(repeat(refine Pn.mk ?_;intro N hN))))
   refine .inl ⟨_,Mz (M0.frame (by(try dsimp only);omega) (sd @v2) (by(have:=dw M0.tv);simp only[go_sem, ↓reduceIte,Nat.reduceEqDiff,Nat.reduceAdd,Nat.reduceSub,Nat.reduceLeDiff,reduceCtorEq,this])) hS hF (bJ p k) t (wi Ns),?_⟩
   refine hN _ _ ?_
   clear hN N
   have jq:∀x:Id,x.aZ<st_b.next->x≠⟨127010002,st_b.next+1+1+1⟩:=fun x hx h=>by rw[h]at hx;(try dsimp only at hx);omega
   cases hb:yG s ts (bJ p k) t
   ·(try((repeat(revert hN;revert N;apply Pn.out));refine wk (tw @b21 (tw @bg0 (tw @bg1 (tw @b0 (tw @b3 (tw @b5 (tw @b8 (tw @pk @hb)))))))) ?_;(repeat(refine Pn.mk ?_;intro N hN))))
    refine eL ?_ ?_ ?_ (by(try dsimp only);exact⟨by omega,bk.frame bk.1 M0.ov (by omega) (fun x hx=>by
      have h1:=dw (i:=x) (n:=st_b.next) (by omega)
      simp only[go_sem, ↓reduceIte,Nat.reduceEqDiff,Nat.reduceAdd,Nat.reduceSub,Nat.reduceLeDiff,reduceCtorEq,h1]),by
     rcases b6 with h|⟨o,n,rows,h1,h2,h3,h4,h5,h6,h7⟩
     ·exact .inl (sd @h)
     ·have h8:=dw h7
      exact .inr ⟨o,n,rows,sd @h1,sd (tw @h2 @h8),h3,h4,by omega,h6,by omega⟩⟩)
    all_goals simp only[go_sem, ↓reduceIte,Nat.reduceEqDiff,Nat.reduceAdd,Nat.reduceSub,Nat.reduceLeDiff,reduceCtorEq,b21,bg0,bg1,b0,b3,b5,b8,pk,aa,vt,vq]
   ·rcases b6 with b6|⟨o,n,rows,b6,bo,o3,o4,o5,o6,o7⟩
    ·(try((repeat(revert hN;revert N;apply Pn.out));refine wk (tw @b21 (tw @bg0 (tw @bg1 (tw @b0 (tw @b3 (tw @b5 (tw @b8 (tw @pk (tw @b6 @hb))))))))) ?_;(repeat(refine Pn.mk ?_;intro N hN))))
     refine eL ?_ ?_ ?_ (by(try dsimp only);exact⟨by omega,bk.frame (m:=st_a.next) ak.1 ha.ov (by omega) (fun x hx=>by
      have h1:=dw (i:=x) (n:=st_b.next) (by omega)
      simp only[go_sem, ↓reduceIte,Nat.reduceEqDiff,Nat.reduceAdd,Nat.reduceSub,Nat.reduceLeDiff,reduceCtorEq,h1]),.inr ⟨⟨127010003,st_b.next+1+1+1⟩,1,[[.int .i64 t]],sl @Nat.zero_add,sd @Nat.zero_add,rfl,by omega,by omega,by(try dsimp only);omega,by(try dsimp only);omega⟩⟩)
     all_goals simp only[go_sem, ↓reduceIte,Nat.reduceEqDiff,Nat.reduceAdd,Nat.reduceSub,Nat.reduceLeDiff,reduceCtorEq,b21,bg0,bg1,b0,b3,b5,b8,pk,aa,vt,vq]
    ·subst o3
     have e1:rows.length<=16777215:=by omega
     have vo:=dw o7
     have vto:=dm (a:=⟨127000000,σ.next⟩) (b:=o) (by(try dsimp only);omega)
     have vqo:=dm (a:=⟨127004003,st_a.next+1+1⟩) (b:=o) (by(try dsimp only);omega)
     (try((repeat(revert hN;revert N;apply Pn.out));refine wk (tw @b21 (tw @bg0 (tw @bg1 (tw @b0 (tw @b3 (tw @b5 (tw @b8 (tw @pk (tw @b6 (tw @bo (tw @hb (tw @e1 @vo)))))))))))) ?_;(repeat(refine Pn.mk ?_;intro N hN))))
     refine eL ?_ ?_ ?_ (by(try dsimp only);exact⟨by omega,bk.frame (m:=st_a.next) ak.1 ha.ov (by omega) (fun x hx=>by
      have h1:=dw (i:=x) (n:=st_b.next) (by omega)
      have h2:=dm (a:=x) (b:=o) (by omega)
      simp only[go_sem, ↓reduceIte,Nat.reduceEqDiff,Nat.reduceAdd,Nat.reduceSub,Nat.reduceLeDiff,reduceCtorEq,h1,h2]),.inr ⟨⟨127010003,st_b.next+1+1+1⟩,rows.length+1,rows++[[.int .i64 t]],sl @Nat.zero_add,sd @Nat.zero_add,by simp,by omega,by omega,by(try dsimp only);omega,by(try dsimp only);omega⟩⟩)
     all_goals simp only[go_sem, ↓reduceIte,Nat.reduceEqDiff,Nat.reduceAdd,Nat.reduceSub,Nat.reduceLeDiff,reduceCtorEq,b21,bg0,bg1,b0,b3,b5,b8,pk,aa,vt,vq,vto,vqo]
  ·obtain⟨rows,hg,S3⟩:=bk.2.2
   have vo:=dw M0.ov
   obtain⟨fi,HM⟩:=Iw S3 (bJ p k).eM (bJ p k).ep
   have hq:((⟨127000000,σ.next⟩:Id)=O)=False:=(dm (a:=O) (b:=⟨127000000,σ.next⟩) (by have:=h.ov;(try dsimp only);omega)).2
   rcases b6 with b6|⟨o,n,rows2,b6,bo,o3,o4,o5,o6,o7⟩
   ·have d0:decide ((0:Int)<((0:Nat):Int))=false:=rfl
    (try((repeat(revert hN;revert N;apply Pn.out));refine wk (tw @b21 (tw @bg0 (tw @bg1 (tw @b0 (tw @b3 (tw @b5 (tw @b8 (tw @pk (tw @b6 (tw @ht (tw @h2 (tw @v2 (tw @vt (tw @vq (tw @vo (tw @hg (tw @HM (tw @aa.eq_1 @d0)))))))))))))))))) ?_;(repeat(refine Pn.mk ?_;intro N hN))))
    refine cw ?_ ?_ (by(try dsimp only);exact⟨by omega,bk.write (by omega) (fun x hx Tg=>by
     have h1:=dw (i:=x) (n:=st_b.next) (by omega)
     have h2:(x=O)=False:=eq_false Tg
     simp only[go_sem, ↓reduceIte,Nat.reduceEqDiff,Nat.reduceAdd,Nat.reduceSub,Nat.reduceLeDiff,reduceCtorEq,h1,h2]) (sl @Nat.zero_add) (NF S3 _)⟩)
    all_goals simp only[go_sem, ↓reduceIte,Nat.reduceEqDiff,Nat.reduceAdd,Nat.reduceSub,Nat.reduceLeDiff,reduceCtorEq,a8,ag0,a0,a3,b21,bg0,bg1,b0,b3,b5,b8,pk,aa,vt,vo,hq]
   ·have d1:decide ((0:Int)<(n:Int))=true:=decide_eq_true (by omega)
    (try((repeat(revert hN;revert N;apply Pn.out));refine wk (tw @b21 (tw @bg0 (tw @bg1 (tw @b0 (tw @b3 (tw @b5 (tw @b8 (tw @pk (tw @b6 (tw @ht (tw @h2 (tw @v2 (tw @vt (tw @vq (tw @vo (tw @hg (tw @HM (tw @aa.eq_1 @d1)))))))))))))))))) ?_;(repeat(refine Pn.mk ?_;intro N hN))))
    refine cw ?_ ?_ (by(try dsimp only);exact⟨by omega,bk.write (by omega) (fun x hx Tg=>by
     have h1:=dw (i:=x) (n:=st_b.next) (by omega)
     have h2:(x=O)=False:=eq_false Tg
     simp only[go_sem, ↓reduceIte,Nat.reduceEqDiff,Nat.reduceAdd,Nat.reduceSub,Nat.reduceLeDiff,reduceCtorEq,h1,h2]) (sl @Nat.zero_add) (NH S3 _ _ _ _)⟩)
    all_goals simp only[go_sem, ↓reduceIte,Nat.reduceEqDiff,Nat.reduceAdd,Nat.reduceSub,Nat.reduceLeDiff,reduceCtorEq,a8,ag0,a0,a3,b21,bg0,bg1,b0,b3,b5,b8,pk,aa,vt,vo,hq]
 ·(try((repeat(revert hN;revert N;apply Pn.out));refine wk (tw @a8 (tw @ag0 (tw @a0 (tw @a3 @hk)))) ?_;(repeat(refine Pn.mk ?_;intro N hN))))
  exact gK (.inr rfl) (vs:=[]) rfl ⟨rfl,ak.frame ak.1 ha.ov (by(try dsimp only);omega) (fun x hx=>rfl)⟩
end Go.Proofs.YtgoelphibofcmaaGreat.V

namespace Go.Proofs.YtgoelphibofcmaaGreat.V
open Go.RowKit
attribute [local irreducible] dD wpOps gI Call
attribute [local go_sem] aK fW eU gE gy cE upd ck K.av cN AV.cells AV.cell rowOf rowsOf part ld rowAt bB bY dO ev iI bK db eI gr e8 dx eB cZ cY ea ec bQ aY cQ bP cU cR ez eC eA cP bV da ew bL aL cW cF iH bz cK bR aU dh aT dP AV.undef bF bG eh eu dX dY cI eH eK cD eE eD cV cX List.getD_cons_zero List.getD_cons_succ List.getD_nil List.all_cons List.all_nil Bool.and_true Bool.true_and Bool.and_self Bool.not_true Bool.not_false Option.map_some Option.map_none Option.bind_some Option.bind_none List.length_cons List.length_nil List.take_succ_cons List.take_zero List.take_nil List.drop_succ_cons List.drop_zero List.drop_nil List.head?_cons List.map_cons List.map_nil List.getElem?_cons_zero List.getElem?_cons_succ List.cons_append List.nil_append List.append_nil List.length_map List.set_cons_zero List.set_cons_succ Nat.reduceMul eq_self Int.toNat_natCast Int.natCast_nonneg and_self true_and and_true decide_true decide_false Bool.false_eq_true Nat.zero_add Nat.add_zero List.contains_cons List.contains_nil Bool.or_false Bool.false_or beq_self_eq_true Nat.reduceBEq ne_eq not_true_eq_false not_false_eq_true Id.mk.injEq false_and and_false Nat.reduceLT Int.reduceLE Int.reduceLT Int.reduceToNat Int.reduceNeg Int.reduceAdd Nat.le_refl List.length_append beq_true beq_false Bool.not_eq_eq_eq_not or_false false_or dQ aj aq aH bd bE cm aW bc aN bf cL bU
structure pC (g:Rows) (n:Nat) (c T O:Id) (s:aB) (ts:List ae):Prop where
 row:g c=some ⟨true,6,[[.sl (s.aC.aA.map bZ),.sl (s.aC.ah.map bj),.sl (s.bh.ah.map ad),.int .i64 s.az,.map T mP,.map O mP]]⟩
 tl:g T=some ⟨true,mP.nA,ts.map ad⟩
 op:∃rows,g O=some ⟨true,mP.nA,rows⟩/\OW rows
 cv:c.aZ<n
 tv:T.aZ<n
 ov:O.aZ<n
 cT:c≠T
 cO:c≠O
 TO:T≠O
theorem pC.D7 {g:Rows} {n:Nat} {c T O:Id} {s:aB} {ts:List ae} (h:pC g n c T O s ts):BR g n c T O s ts:=⟨⟨_,h.row⟩,⟨_,h.tl⟩,h.cv,h.tv,h.ov⟩
theorem pC.look {σ:ar} {g:Rows} {n:Nat} {c T O:Id} {s:aB} {ts:List ae} (h:pC σ.get σ.next c T O s ts) (k:iA σ O g n):pC g n c T O s ts:=
 ⟨(k.2.1 _ h.cv h.cO).trans h.row,(k.2.1 _ h.tv h.TO).trans h.tl,k.2.2,Nat.lt_of_lt_of_le h.cv k.1,Nat.lt_of_lt_of_le h.tv k.1,Nat.lt_of_lt_of_le h.ov k.1,h.cT,h.cO,h.TO⟩
theorem pC.frame {g g':Rows} {n n':Nat} {c T O:Id} {s:aB} {ts:List ae} (h:pC g n c T O s ts) (hn:n<=n') (hf:∀x:Id,x.aZ<n->g' x=g x):pC g' n' c T O s ts:=
 ⟨(hf _ h.cv).trans h.row,(hf _ h.tv).trans h.tl,by rw[hf _ h.ov];exact h.op,Nat.lt_of_lt_of_le h.cv hn,Nat.lt_of_lt_of_le h.tv hn,Nat.lt_of_lt_of_le h.ov hn,h.cT,h.cO,h.TO⟩
def RK (σ:ar) (s:aB) (ts:List ae) (r:AV) (σ':ar):Prop:=
 ∃c T O:Id,r=.ptr c 0 0/\pC σ'.get σ'.next c T O s ts/\σ.next<=c.aZ/\σ.next<=T.aZ/\σ.next<=O.aZ/\σ.next<=σ'.next/\∀x:Id,x.aZ<σ.next->σ'.get x=σ.get x
theorem uU {l:List ae} {p:ai}:ek l p<0↔∀t∈l,t.aF≠p:=by
 unfold ek pW
 by_cases h:(l.findIdx fun c=>decide (c.aF=p))<l.length
 ·rw[if_pos h]
  obtain⟨t,ht,h2⟩:=List.findIdx_lt_length.1 h
  exact⟨fun h=>by omega,fun h=>absurd (by simpa using h2) (h t ht)⟩
 ·rw[if_neg h]
  exact⟨fun _ t ht e=>h (List.findIdx_lt_length.2 ⟨t,ht,by simp[e]⟩),fun _=>by omega⟩
theorem I5 {l:List ae} (h:uc l) {k:Nat} (hk:k<l.length):ek (l.take k) (aG l k).aF<0:=by
 rw[uU]
 intro t ht e
 obtain⟨j,hj,rfl⟩:=List.getElem_of_mem ht
 have Jz:j<k:=by rw[List.length_take]at hj;omega
 have:=h j k Jz hk
 rw[List.getElem_take]at e
 have e2:aG l j=l[j]'(by omega):=by unfold aG;rw[List.getD_eq_getElem?_getD,List.getElem?_eq_getElem (by omega)];rfl
 rw[e2,e]at this
 simp[ki]at this
theorem K2 {l:List ae} {k:Nat} (hk:k<l.length):(l.take k).map ad++[[.int .i64 (aG l k).aF.eM,.int .i64 (aG l k).aF.ep,.int .i64 (aG l k).aQ]]=(l.take (k+1)).map ad:=by
 have e2:aG l k=l[k]:=by unfold aG;rw[List.getD_eq_getElem?_getD,List.getElem?_eq_getElem hk];rfl
 rw[List.take_succ_eq_append_getElem hk,List.map_append,e2]
 rfl
theorem gZ.Lq {s:aw} {l:List ae} (hA:jx s l):∀q,0<=fH l q->eP s (fH l q)=true:=fun _ h=>Af hA h
theorem zi (s:aB) (hS:gZ s.aC) (l:List ae) (hA:jx s.aC l) (σ:ar):Call Tryz.prog 73 [.agg (au s),.agg [.sl (l.map ad)]] σ (RK σ s l):=by
 refine gW eG rfl fun mu=>?_
 clear mu
 have AJ:=hA.1.sH
 (try((repeat(revert hN;revert N;apply Pn.out));refine wk @au.eq_1 ?_;(repeat(refine Pn.mk ?_;intro N hN))))
 refine aJ (fun n env st=>∃k:Nat,n=(l.length)-k/\k<=(l.length)/\env 18=.int .i64 (k:Int)/\st.get ⟨73001004,σ.next+1⟩=some ⟨true,6,[[.sl (s.aC.aA.map bZ),.sl (s.aC.ah.map bj),.sl (s.bh.ah.map ad),.int .i64 s.az,.map ⟨73001001,σ.next+1⟩ mP,.map ⟨73001002,σ.next+1⟩ mP]]⟩/\st.get ⟨73001001,σ.next+1⟩=some ⟨true,mP.nA,(l.take k).map ad⟩/\st.get ⟨73001002,σ.next+1⟩=some ⟨true,mP.nA,[]⟩/\st.get ⟨73000001,σ.next⟩=some ⟨true,1,[[.sl (l.map ad)]]⟩/\(σ.next+3<=st.next/\∀x:Id,x.aZ<σ.next->st.get x=σ.get x)) (l.length) ⟨0,by omega,by omega,sl @Nat.zero_add,sl @Nat.zero_add,sl @Nat.zero_add,sl @Nat.zero_add,sl @Nat.zero_add,⟨by(try dsimp only);omega,fun x hx=>by
  have:=dw hx
  simp only[go_sem, ↓reduceIte,Nat.reduceEqDiff,Nat.reduceAdd,Nat.reduceSub,Nat.reduceLeDiff,reduceCtorEq,this]⟩⟩ ?_
 rintro n_a env_a st_a ⟨k,rfl,ale,a18,ag0,ag1,ag2,ag3,nj⟩ dv
 have a3:=dv 3 (by kernel_rfl);have a5:=dv 5 (by kernel_rfl);have Ot:=dv 16 (by kernel_rfl);have a17:=dv 17 (by kernel_rfl)
 simp only[go_sem, ↓reduceIte,Nat.reduceEqDiff,Nat.reduceAdd,Nat.reduceSub,Nat.reduceLeDiff,reduceCtorEq]at a3 a5 Ot a17
 clear dv
 obtain⟨an,dv⟩:=nj
 have v1:=dw (i:=⟨73001004,σ.next+1⟩) (n:=st_a.next) (by(try dsimp only);omega)
 have v2:=dw (i:=⟨73001001,σ.next+1⟩) (n:=st_a.next) (by(try dsimp only);omega)
 have v3:=dw (i:=⟨73001002,σ.next+1⟩) (n:=st_a.next) (by(try dsimp only);omega)
 have v4:=dw (i:=⟨73000001,σ.next⟩) (n:=st_a.next) (by(try dsimp only);omega)
 by_cases hk:(k:Int)<(l.length:Int)
 ·have cw:∀{e:Env} {gg:Rows} {nx:Nat},(e 18=.int .i64 (IntKind.i64.wrap ((k:Int)+1)))->(gg ⟨73001004,σ.next+1⟩=some ⟨true,6,[[.sl (s.aC.aA.map bZ),.sl (s.aC.ah.map bj),.sl (s.bh.ah.map ad),.int .i64 s.az,.map ⟨73001001,σ.next+1⟩ mP,.map ⟨73001002,σ.next+1⟩ mP]]⟩)->(gg ⟨73001001,σ.next+1⟩=some ⟨true,mP.nA,(l.take (k+1)).map ad⟩)->(gg ⟨73001002,σ.next+1⟩=some ⟨true,mP.nA,[]⟩)->(gg ⟨73000001,σ.next⟩=some ⟨true,1,[[.sl (l.map ad)]]⟩)->(σ.next+3<=nx/\∀x:Id,x.aZ<σ.next->gg x=σ.get x)->∃m0,m0<(l.length)-k/\∃k:Nat,m0=(l.length)-k/\k<=(l.length)/\e 18=.int .i64 (k:Int)/\gg ⟨73001004,σ.next+1⟩=some ⟨true,6,[[.sl (s.aC.aA.map bZ),.sl (s.aC.ah.map bj),.sl (s.bh.ah.map ad),.int .i64 s.az,.map ⟨73001001,σ.next+1⟩ mP,.map ⟨73001002,σ.next+1⟩ mP]]⟩/\gg ⟨73001001,σ.next+1⟩=some ⟨true,mP.nA,(l.take k).map ad⟩/\gg ⟨73001002,σ.next+1⟩=some ⟨true,mP.nA,[]⟩/\gg ⟨73000001,σ.next⟩=some ⟨true,1,[[.sl (l.map ad)]]⟩/\(σ.next+3<=nx/\∀x:Id,x.aZ<σ.next->gg x=σ.get x):=fun x1 x2 x3 x4 x5 x6=>⟨_,by omega,k+1,rfl,by omega,(by rw[x1,ax (by omega)]),x2,x3,x4,x5,x6⟩
  have e7:k<l.length:=by omega
  have hg:=fm e7
  have hm:=vh (I5 hA.1.F9 e7)
  have iU:=K2 e7
  (try((repeat(revert hN;revert N;apply Pn.out));refine wk (tw @a18 (tw @ag0 (tw @ag1 (tw @ag2 (tw @ag3 (tw @a3 (tw @a5 (tw @Ot (tw @a17 (tw @hk (tw @hg (tw @hm (tw @v1 (tw @v2 (tw @v3 (tw @v4 @ad.eq_1)))))))))))))))) ?_;(repeat(refine Pn.mk ?_;intro N hN))))
  refine cw ?_ ?_ ?_ ?_ ?_ (by(try dsimp only);exact⟨by omega,fun x hx=>by
   have h1:=dw (i:=x) (n:=st_a.next) (by omega)
   have h2:=dm (a:=x) (b:=⟨73001001,σ.next+1⟩) (by(try dsimp only);omega)
   have h3:=dv x hx
   simp only[go_sem, ↓reduceIte,Nat.reduceEqDiff,Nat.reduceAdd,Nat.reduceSub,Nat.reduceLeDiff,reduceCtorEq,h1,h2,h3]⟩)
  all_goals simp only[go_sem, ↓reduceIte,Nat.reduceEqDiff,Nat.reduceAdd,Nat.reduceSub,Nat.reduceLeDiff,reduceCtorEq,a18,ag0,ag1,ag2,ag3,a3,a5,Ot,a17,ad,v1,v2,v3,v4,iU]
 ·have kW:k=l.length:=by omega
  subst kW
  have mZ:l.take l.length=l:=List.take_length
  (try((repeat(revert hN;revert N;apply Pn.out));refine wk (tw @a18 (tw @ag0 (tw @ag1 (tw @ag2 (tw @ag3 (tw @a3 (tw @a5 (tw @Ot (tw @a17 (tw @hk (tw @v1 (tw @v2 (tw @v3 @v4))))))))))))) ?_;(repeat(refine Pn.mk ?_;intro N hN))))
  refine aJ (fun n env st=>∃j:Nat,n=(l.length)-j/\j<=(l.length)/\env 34=.int .i64 (j:Int)/\(σ.next+3<=st.next/\pC st.get st.next ⟨73001004,σ.next+1⟩ ⟨73001001,σ.next+1⟩ ⟨73001002,σ.next+1⟩ s l/\∀x:Id,x.aZ<σ.next->st.get x=σ.get x)) (l.length) ⟨0,by omega,by omega,sl (tw @a18 (tw @ag0 (tw @ag1 (tw @ag2 (tw @ag3 (tw @a3 (tw @a5 (tw @Ot @a17)))))))),by(try dsimp only);exact⟨by omega,⟨sd @ag0,sd (tw @ag1 @mZ),⟨[],sd @ag2,by intro r hr;cases hr⟩,by(try dsimp only);omega,by(try dsimp only);omega,by(try dsimp only);omega,(by intro e;injection e with e1 e2;revert e1;decide),(by intro e;injection e with e1 e2;revert e1;decide),(by intro e;injection e with e1 e2;revert e1;decide)⟩,fun x hx=>by
   have h3:=dv x hx
   simp only[go_sem, ↓reduceIte,Nat.reduceEqDiff,Nat.reduceAdd,Nat.reduceSub,Nat.reduceLeDiff,reduceCtorEq,h3]⟩⟩ ?_
  rintro n_b env_b st_b ⟨j,rfl,ble,b34,bI0⟩ ej
  have b5:=ej 5 (by kernel_rfl);have sw:=ej 32 (by kernel_rfl);have ta:=ej 33 (by kernel_rfl)
  simp only[go_sem, ↓reduceIte,Nat.reduceEqDiff,Nat.reduceAdd,Nat.reduceSub,Nat.reduceLeDiff,reduceCtorEq,a18,ag0,ag1,ag2,ag3,a3,a5,Ot,a17]at b5 sw ta
  clear ej
  obtain⟨bn,bC,ej⟩:=bI0
  by_cases hj:(j:Int)<(l.length:Int)
  ·have eL:∀{e:Env} {gg:Rows} {nx:Nat},(e 34=.int .i64 (IntKind.i64.wrap ((j:Int)+1)))->(σ.next+3<=nx/\pC gg nx ⟨73001004,σ.next+1⟩ ⟨73001001,σ.next+1⟩ ⟨73001002,σ.next+1⟩ s l/\∀x:Id,x.aZ<σ.next->gg x=σ.get x)->∃m0,m0<(l.length)-j/\∃j:Nat,m0=(l.length)-j/\j<=(l.length)/\e 34=.int .i64 (j:Int)/\(σ.next+3<=nx/\pC gg nx ⟨73001004,σ.next+1⟩ ⟨73001001,σ.next+1⟩ ⟨73001002,σ.next+1⟩ s l/\∀x:Id,x.aZ<σ.next->gg x=σ.get x):=fun x1 x2=>⟨_,by omega,j+1,rfl,by omega,(by rw[x1,ax (by omega)]),x2⟩
   have nu:j<l.length:=by omega
   have hg:=fm nu
   have HT:=om (hA.1.pt nu)
   (try((repeat(revert hN;revert N;apply Pn.out));refine wk (tw @b34 (tw @b5 (tw @sw (tw @ta (tw @hj (tw @hg @ad.eq_1)))))) ?_;(repeat(refine Pn.mk ?_;intro N hN))))
   have Lv:pC (bB (bB st_b.get ⟨73009002,st_b.next+1⟩ ⟨true,3,[[.int .i64 0,.int .i64 0,.int .i64 0]]⟩) ⟨73009002,st_b.next+1⟩ ⟨true,3,[[.int .i64 (aG l j).aF.eM,.int .i64 (aG l j).aF.ep,.int .i64 (aG l j).aQ]]⟩) (st_b.next+1+1+1) ⟨73001004,σ.next+1⟩ ⟨73001001,σ.next+1⟩ ⟨73001002,σ.next+1⟩ s l:=bC.frame (by omega) fun x hx=>by
    have h1:=dw hx
    simp only[go_sem, ↓reduceIte,Nat.reduceEqDiff,Nat.reduceAdd,Nat.reduceSub,Nat.reduceLeDiff,reduceCtorEq,h1]
   refine .inr (aV _ _ _ _ _ (fun r σ1 hq=>?_) (y6 (σ:=⟨bB (bB st_b.get ⟨73009002,st_b.next+1⟩ ⟨true,3,[[.int .i64 0,.int .i64 0,.int .i64 0]]⟩) ⟨73009002,st_b.next+1⟩ ⟨true,3,[[.int .i64 (aG l j).aF.eM,.int .i64 (aG l j).aF.ep,.int .i64 (aG l j).aQ]]⟩,st_b.next+1+1+1⟩) Lv.D7 Lv.cO Lv.TO Lv.op hS (gZ.Lq hA) (aG l j).aF HT.1 HT.2))
   obtain⟨g1,x1⟩:=σ1
   obtain⟨rfl,hL⟩:=hq
   (try dsimp only at hL)
   have hC2:=Lv.look hL
   have hLn:=hL.1
   have hLf:=hL.2.1
   (try dsimp only at hLn hLf)
   refine hN _ _ ?_
   clear hN N
   (try((repeat(revert hN;revert N;apply Pn.out));refine wk (tw @b34 (tw @b5 (tw @sw @ta))) ?_;(repeat(refine Pn.mk ?_;intro N hN))))
   exact eL (sd (tw @b34 (tw @b5 (tw @sw @ta)))) (by(try dsimp only);exact⟨by omega,hC2.frame (by omega) (fun x hx=>rfl),fun x hx=>by
    have h1:=dw (i:=x) (n:=st_b.next) (by omega)
    have h2:=hLf x (by omega) (fun e=>by rw[e]at hx;(try dsimp only at hx);omega)
    have h3:=ej x hx
    simp only[h2]
    simp only[go_sem, ↓reduceIte,Nat.reduceEqDiff,Nat.reduceAdd,Nat.reduceSub,Nat.reduceLeDiff,reduceCtorEq,h1,h3]⟩)
  ·(try((repeat(revert hN;revert N;apply Pn.out));refine wk (tw @b34 (tw @b5 (tw @sw (tw @ta @hj)))) ?_;(repeat(refine Pn.mk ?_;intro N hN))))
   exact gK (.inl rfl) (vs:=[.ptr ⟨73001004,σ.next+1⟩ 0 0]) (sd @Nat.zero_add) ⟨_,_,_,rfl,bC.frame (by(try dsimp only);omega) (fun x hx=>rfl),by(try dsimp only);omega,by(try dsimp only);omega,by(try dsimp only);omega,by(try dsimp only);omega,ej⟩
end Go.Proofs.YtgoelphibofcmaaGreat.V

namespace Go.Proofs.YtgoelphibofcmaaGreat.V
open Go.RowKit
attribute [local irreducible] dD wpOps gI Call
attribute [local go_sem] aK fW eU gE gy cE upd ck K.av cN AV.cells AV.cell rowOf rowsOf part ld rowAt bB bY dO ev iI bK db eI gr e8 dx eB cZ cY ea ec bQ aY cQ bP cU cR ez eC eA cP bV da ew bL aL cW cF iH bz cK bR aU dh aT dP AV.undef bF bG eh eu dX dY cI eH eK cD eE eD cV cX List.getD_cons_zero List.getD_cons_succ List.getD_nil List.all_cons List.all_nil Bool.and_true Bool.true_and Bool.and_self Bool.not_true Bool.not_false Option.map_some Option.map_none Option.bind_some Option.bind_none List.length_cons List.length_nil List.take_succ_cons List.take_zero List.take_nil List.drop_succ_cons List.drop_zero List.drop_nil List.head?_cons List.map_cons List.map_nil List.getElem?_cons_zero List.getElem?_cons_succ List.cons_append List.nil_append List.append_nil List.length_map List.set_cons_zero List.set_cons_succ Nat.reduceMul eq_self Int.toNat_natCast Int.natCast_nonneg and_self true_and and_true decide_true decide_false Bool.false_eq_true Nat.zero_add Nat.add_zero List.contains_cons List.contains_nil Bool.or_false Bool.false_or beq_self_eq_true Nat.reduceBEq ne_eq not_true_eq_false not_false_eq_true Id.mk.injEq false_and and_false Nat.reduceLT Int.reduceLE Int.reduceLT Int.reduceToNat Int.reduceNeg Int.reduceAdd Nat.le_refl List.length_append beq_true beq_false Bool.not_eq_eq_eq_not or_false false_or dQ aj aq aH bd bE cm aW bc aN bf cL bU
theorem xY {s:aB} {l:List ae}:iQ s l=0↔ue s/\jx s.aC l/\kf s.bh.ah l=true:=by
 unfold iQ
 cases b:qo s l
 ·simp;intro h1 h2;exact absurd (qp.2 ⟨h1,h2⟩) (by rw[b];simp)
 ·obtain⟨h1,h2⟩:=qp.1 b
  cases kf s.bh.ah l<;>simp[h1,h2]
noncomputable def hZ (s:aB) (l:List ae):Option (ai×Int)×Int:=if iQ s l=0 then(jY s l,if (jY s l).isSome then 0 else 3)else(none,iQ s l)
theorem yl (s:aB) (l:List ae) (hn:fJ s.aC) (hg:s.aC.aA.length<=1048576) (ht:s.aC.ah.length<=1048576):ao Tryz.prog 24 [.agg (au s),.agg [.sl (l.map ad)]] (.gx [.agg (nz (hZ s l).1),.int .i64 (hZ s l).2]):=by
 refine ao.body eG rfl fun mu n0=>?_
 clear mu
 have h1:=FR s l hn hg ht
 by_cases h0:iQ s l=0
 ·obtain⟨hP,hA,hW⟩:=xY.1 h0
  have h2:=C5 s hP l hA
  rw[h0]at h1
  rw[au]at h1 h2 ⊢
  rcases hf:jY s l with _|⟨p,t⟩
  ·have hr:hZ s l=(none,3):=by rw[hZ,if_pos h0,hf];rfl
   rw[hr]
   rw[hf]at h2
   simp only[nz,Option.isSome_none]at h2
   (repeat(first|((repeat(revert hN;revert N;apply Pn.out));refine wk @Nat.zero_add ?_;(repeat(refine Pn.mk ?_;intro N hN)))|((try apply Or.inl);refine⟨_,ao.x (h1) (sd @Nat.zero_add),?_⟩;refine hN _ _ ?_;clear hN N)|((try apply Or.inl);refine⟨_,ao.x (h2) (sd @Nat.zero_add),?_⟩;refine hN _ _ ?_;clear hN N)))
   exact jU (.inl rfl) (vs:=[.agg [.int .i64 0,.int .i64 0,.int .i64 0],.int .i64 3]) (sd @Nat.zero_add) (by simp only[eT,nz,dM,j8,aP,bt,dU,dC,Option.map_some])
  ·have hr:hZ s l=(some (p,t),0):=by rw[hZ,if_pos h0,hf];rfl
   rw[hr]
   rw[hf]at h2
   simp only[nz,Option.isSome_some]at h2
   (repeat(first|((repeat(revert hN;revert N;apply Pn.out));refine wk @Nat.zero_add ?_;(repeat(refine Pn.mk ?_;intro N hN)))|((try apply Or.inl);refine⟨_,ao.x (h1) (sd @Nat.zero_add),?_⟩;refine hN _ _ ?_;clear hN N)|((try apply Or.inl);refine⟨_,ao.x (h2) (sd @Nat.zero_add),?_⟩;refine hN _ _ ?_;clear hN N)))
   exact jU (.inl rfl) (vs:=[.agg [.int .i64 p.eM,.int .i64 p.ep,.int .i64 t],.int .i64 0]) (sd @Nat.zero_add) (by simp only[eT,nz,dM,j8,aP,bt,dU,dC,Option.map_some])
 ·have hd:decide (iQ s l=0)=false:=decide_eq_false h0
  have hr:hZ s l=(none,iQ s l):=by rw[hZ,if_neg h0]
  rw[hr]
  rw[au]at h1 ⊢
  (repeat(first|((repeat(revert hN;revert N;apply Pn.out));refine wk @hd ?_;(repeat(refine Pn.mk ?_;intro N hN)))|((try apply Or.inl);refine⟨_,ao.x (h1) (sd @hd),?_⟩;refine hN _ _ ?_;clear hN N)))
  exact jU (.inl rfl) (vs:=[.agg [.int .i64 0,.int .i64 0,.int .i64 0],.int .i64 (iQ s l)]) (sd @Nat.zero_add) (by simp only[eT,nz,dM,j8,aP,bt,dU,dC,Option.map_some])
end Go.Proofs.YtgoelphibofcmaaGreat.V

namespace Go.Proofs.YtgoelphibofcmaaGreat.V
open Go.RowKit
attribute [local irreducible] dD wpOps gI Call
attribute [local go_sem] aK fW eU gE gy cE upd ck K.av cN AV.cells AV.cell rowOf rowsOf part ld rowAt bB bY dO ev iI bK db eI gr e8 dx eB cZ cY ea ec bQ aY cQ bP cU cR ez eC eA cP bV da ew bL aL cW cF iH bz cK bR aU dh aT dP AV.undef bF bG eh eu dX dY cI eH eK cD eE eD cV cX List.getD_cons_zero List.getD_cons_succ List.getD_nil List.all_cons List.all_nil Bool.and_true Bool.true_and Bool.and_self Bool.not_true Bool.not_false Option.map_some Option.map_none Option.bind_some Option.bind_none List.length_cons List.length_nil List.take_succ_cons List.take_zero List.take_nil List.drop_succ_cons List.drop_zero List.drop_nil List.head?_cons List.map_cons List.map_nil List.getElem?_cons_zero List.getElem?_cons_succ List.cons_append List.nil_append List.append_nil List.length_map List.set_cons_zero List.set_cons_succ Nat.reduceMul eq_self Int.toNat_natCast Int.natCast_nonneg and_self true_and and_true decide_true decide_false Bool.false_eq_true Nat.zero_add Nat.add_zero List.contains_cons List.contains_nil Bool.or_false Bool.false_or beq_self_eq_true Nat.reduceBEq ne_eq not_true_eq_false not_false_eq_true Id.mk.injEq false_and and_false Nat.reduceLT Int.reduceLE Int.reduceLT Int.reduceToNat Int.reduceNeg Int.reduceAdd Nat.le_refl List.length_append beq_true beq_false Bool.not_eq_eq_eq_not or_false false_or dQ aj aq aH bd bE cm aW bc aN bf cL bU
noncomputable def JJ (s:aB) (l:List ae) (p:ai) (t:Int):Bool:=decide (¬fH l p=t)&&decide (s.az<=nM s.aC (fH l) p t)
structure G7 (g:Rows) (n:Nat) (A S C c T O:Id) (s:aB) (l:List ae):Prop where
 a:∃b,g A=some ⟨b,1,[[.sl (l.map ad)]]⟩
 sy:∃b,g S=some ⟨b,4,[au s]⟩
 p:∃b,g C=some ⟨b,1,[[.ptr c 0 0]]⟩
 D7:BR g n c T O s l
 av:A.aZ<n
 sv:S.aZ<n
 pv:C.aZ<n
theorem G7.ro {g:Rows} {n:Nat} {A S C c T O:Id} {s:aB} {l:List ae} (h:G7 g n A S C c T O s l):G7 (V.ro g) n A S C c T O s l:=by
 obtain⟨b,h1⟩:=h.a
 obtain⟨b2,h2⟩:=h.sy
 obtain⟨b3,h3⟩:=h.p
 exact⟨⟨false,by simp[V.ro,h1]⟩,⟨false,by simp[V.ro,h2]⟩,⟨false,by simp[V.ro,h3]⟩,h.D7.ro,h.av,h.sv,h.pv⟩
theorem G7.frame {g g':Rows} {n n':Nat} {A S C c T O:Id} {s:aB} {l:List ae} (h:G7 g n A S C c T O s l) (hn:n<=n') (hf:∀x:Id,x.aZ<n->g' x=g x):G7 g' n' A S C c T O s l:=
 ⟨by rw[hf _ h.av];exact h.a,by rw[hf _ h.sv];exact h.sy,by rw[hf _ h.pv];exact h.p,h.D7.frame hn (hf _ h.D7.cv) (hf _ h.D7.tv),Nat.lt_of_lt_of_le h.av hn,Nat.lt_of_lt_of_le h.sv hn,Nat.lt_of_lt_of_le h.pv hn⟩
theorem Jk {σ:ar} {A S C c T O:Id} {s:aB} {l:List ae} (h:G7 σ.get σ.next A S C c T O s l) (hS:gZ s.aC) (hA:jx s.aC l) (p:ai) (hx:iB p.eM) (hy:iB p.ep) (t:Int) (ht:eP s.aC t=true):
  Call Tryz.prog 119 [.agg (aa p),.int .i64 t,.ptr A 0 0,.ptr S 0 0,.ptr C 0 0] σ (fun r _=>r=.bool (JJ s l p t)):=by
 refine gW eG rfl fun mu=>?_
 clear mu
 obtain⟨b1,h1⟩:=h.a
 obtain⟨b2,h2⟩:=h.sy
 obtain⟨b3,h3⟩:=h.p
 have v1:=dw h.av
 have v2:=dw h.sv
 have v3:=dw h.pv
 have wv:=JN l p hA.1.F9 (by have:=hA.1.sH;omega)
 have hb:=jN hS (fH l) p t 4
 by_cases h0:fH l p=t
 ·have hd:decide (fH l p=t)=true:=decide_eq_true h0
  (repeat(first|((repeat(revert hN;revert N;apply Pn.out));refine wk (tw @h1 (tw @h2 (tw @h3 (tw @v1 (tw @v2 (tw @v3 (tw @hd (tw @au.eq_1 @aa.eq_1)))))))) ?_;(repeat(refine Pn.mk ?_;intro N hN)))|((try apply Or.inl);refine⟨_,ao.x (wv) (sd (tw @h1 (tw @h2 (tw @h3 (tw @v1 (tw @v2 (tw @v3 (tw @hd (tw @au.eq_1 @aa.eq_1))))))))),?_⟩;refine hN _ _ ?_;clear hN N)))
  exact gK (.inl rfl) (vs:=[.bool false]) (sd @Nat.zero_add) (by rw[show JJ s l p t=false by simp[JJ,h0]];rfl)
 ·have hd:decide (fH l p=t)=false:=decide_eq_false h0
  (repeat(first|((repeat(revert hN;revert N;apply Pn.out));refine wk (tw @h1 (tw @h2 (tw @h3 (tw @v1 (tw @v2 (tw @v3 (tw @hd (tw @au.eq_1 @aa.eq_1)))))))) ?_;(repeat(refine Pn.mk ?_;intro N hN)))|((try apply Or.inl);refine⟨_,ao.x (wv) (sd (tw @h1 (tw @h2 (tw @h3 (tw @v1 (tw @v2 (tw @v3 (tw @hd (tw @au.eq_1 @aa.eq_1))))))))),?_⟩;refine hN _ _ ?_;clear hN N)))
  refine⟨_,xi (h.D7.frame (by(try dsimp only);omega) (by(have v4:=dw h.D7.cv);simp only[go_sem, ↓reduceIte,Nat.reduceEqDiff,Nat.reduceAdd,Nat.reduceSub,Nat.reduceLeDiff,reduceCtorEq,v4]) (by(have v5:=dw h.D7.tv);simp only[go_sem, ↓reduceIte,Nat.reduceEqDiff,Nat.reduceAdd,Nat.reduceSub,Nat.reduceLeDiff,reduceCtorEq,v5])) hS (gZ.Lq hA) p hx hy t ht,?_⟩
  refine hN _ _ ?_
  clear hN N
  (repeat(first|((repeat(revert hN;revert N;apply Pn.out));refine wk (tw @h1 (tw @h2 (tw @h3 (tw @v1 (tw @v2 (tw @v3 (tw @hd (tw @au.eq_1 @aa.eq_1)))))))) ?_;(repeat(refine Pn.mk ?_;intro N hN)))|((try apply Or.inl);refine⟨_,ao.x (wv) (sd (tw @h1 (tw @h2 (tw @h3 (tw @v1 (tw @v2 (tw @v3 (tw @hd (tw @au.eq_1 @aa.eq_1))))))))),?_⟩;refine hN _ _ ?_;clear hN N)))
  exact gK (.inl rfl) (vs:=[.bool (decide (s.az<=nM s.aC (fH l) p t))]) (sd @Nat.zero_add) (by rw[show JJ s l p t=decide (s.az<=nM s.aC (fH l) p t) by simp[JJ,h0]];rfl)
theorem Jl {σ:ar} {A S C c T O:Id} {s:aB} {l:List ae} (h:G7 σ.get σ.next A S C c T O s l) (hS:gZ s.aC) (hA:jx s.aC l) (p:ai) (hx:iB p.eM) (hy:iB p.ep) (t:Int) (ht:eP s.aC t=true):
  gI (Call Tryz.prog) 119 [.agg (aa p),.int .i64 t,.ptr A 0 0,.ptr S 0 0,.ptr C 0 0] σ (fun r=>r=.bool (JJ s l p t)):=by
 unfold gI PC
 exact Or.inl (aV _ _ _ _ _ (fun r σ' hr=>⟨_,by rw[hr];exact bd _ _ _,rfl⟩) (Jk (σ:=⟨V.ro σ.get,σ.next⟩) h.ro hS hA p hx hy t ht))
noncomputable def w9 (s:aB) (l:List ae) (p:ai):Nat->List ae
 |0=>[]
 |t+1=>if JJ s l p (t:Nat)=true then w9 s l p t++[⟨p,(t:Nat)⟩]else w9 s l p t
noncomputable def ph (s:aB) (l:List ae) (ps:List ai):List ae:=ps.flatMap fun p=>w9 s l p s.aC.ah.length
theorem zM (s:aB) (l:List ae) (p:ai):∀t,(w9 s l p t).length<=t
 |0=>by simp[w9]
 |t+1=>by
  have:=zM s l p t
  rw[w9]
  split
  ·rw[List.length_append,List.length_singleton];omega
  ·omega
theorem EN (s:aB) (l:List ae):∀ps:List ai,(ph s l ps).length<=ps.length*s.aC.ah.length
 |[]=>by simp[ph]
 |p::ps=>by
  have h:=EN s l ps
  have h2:=zM s l p s.aC.ah.length
  unfold ph at *
  rw[List.flatMap_cons,List.length_append,List.length_cons,Nat.add_mul,Nat.one_mul]
  omega
theorem Jf {s:aB} {l:List ae} {ps:List ai} {k:Nat} (hk:k<ps.length):ph s l (ps.take (k+1))=ph s l (ps.take k)++w9 s l (fo ps k) s.aC.ah.length:=by
 unfold ph
 rw[List.take_succ_eq_append_getElem hk,List.flatMap_append,gP hk]
 simp
def Lm (m:Nat) (L:List ae) (v:AV) (g:Rows) (n:Nat):Prop:=(L=[]/\v=.cj)∨∃o:Id,v=.own o 0 L.length/\g o=some ⟨true,3,L.map ad⟩/\m<=o.aZ/\o.aZ<n/\0<L.length/\o.site=118009005
theorem Gn {σ:ar} {A S C c T O:Id} {s:aB} {l:List ae} (h:G7 σ.get σ.next A S C c T O s l) (hS:gZ s.aC) (hA:jx s.aC l) (ps:List ai) (X:List (List AV)) (hl:ps.length<=10000) (GH:∀p∈ps,r8 p=true) (o:Id) (lQ:o.aZ<σ.next) (ho:σ.get o=some ⟨true,2,ps.map aa++X⟩):
  Call Tryz.prog 118 [.ptr c 0 0,.own o 0 ps.length,.fn 119 [.ptr A 0 0,.ptr S 0 0,.ptr C 0 0]] σ (fun r σ'=>Lm σ.next (ph s l ps) r σ'.get σ'.next):=by
 refine gW eG rfl fun mu=>?_
 clear mu
 have JG:=hS.BE
 have vo:=dw lQ
 (try((repeat(revert hN;revert N;apply Pn.out));refine wk (tw @ho @vo) ?_;(repeat(refine Pn.mk ?_;intro N hN))))
 refine aJ (fun n env st=>∃k:Nat,n=(ps.length)-k/\k<=(ps.length)/\env 13=.int .i64 (k:Int)/\(σ.next<=st.next/\(∀y:Id,y.aZ<σ.next->st.get y=σ.get y)/\Lm σ.next (ph s l (ps.take k)) (env 7) st.get st.next)) (ps.length) ⟨0,by omega,by omega,sl @Nat.zero_add,by(try dsimp only);exact⟨by omega,fun y hy=>by
  have h1:=dw hy
  simp only[go_sem, ↓reduceIte,Nat.reduceEqDiff,Nat.reduceAdd,Nat.reduceSub,Nat.reduceLeDiff,reduceCtorEq,h1],.inl ⟨rfl,sd @Nat.zero_add⟩⟩⟩ ?_
 rintro n_a env_a st_a ⟨k,rfl,ale,a13,nj⟩ dv
 have a0:=dv 0 (by kernel_rfl);have a2:=dv 2 (by kernel_rfl);have Cc:=dv 11 (by kernel_rfl);have a12:=dv 12 (by kernel_rfl)
 simp only[go_sem, ↓reduceIte,Nat.reduceEqDiff,Nat.reduceAdd,Nat.reduceSub,Nat.reduceLeDiff,reduceCtorEq]at a0 a2 Cc a12
 clear dv
 obtain⟨an,dv,a7⟩:=nj
 by_cases hk:(k:Int)<(ps.length:Int)
 ·have cw:∀{e:Env} {gg:Rows} {nx:Nat},(e 13=.int .i64 (IntKind.i64.wrap ((k:Int)+1)))->(σ.next<=nx/\(∀y:Id,y.aZ<σ.next->gg y=σ.get y)/\Lm σ.next (ph s l (ps.take (k+1))) (e 7) gg nx)->∃m0,m0<(ps.length)-k/\∃k:Nat,m0=(ps.length)-k/\k<=(ps.length)/\e 13=.int .i64 (k:Int)/\(σ.next<=nx/\(∀y:Id,y.aZ<σ.next->gg y=σ.get y)/\Lm σ.next (ph s l (ps.take k)) (e 7) gg nx):=fun x1 x2=>⟨_,by omega,k+1,rfl,by omega,(by rw[x1,ax (by omega)]),x2⟩
  have e7:k<ps.length:=by omega
  have BX:=GH _ (zp e7)
  obtain⟨hx,hy⟩:=om BX
  have ha:G7 st_a.get st_a.next A S C c T O s l:=h.frame an dv
  obtain⟨b,h1⟩:=ha.D7.row
  have v1:=dw ha.D7.cv
  have uL:=(dv o lQ).trans ho
  have vao:=dw (i:=o) (n:=st_a.next) (by omega)
  have gF:(ps.map aa++X)[k]? =some (aa (fo ps k)):=by rw[List.getElem?_append_left (by simp;omega),qQ e7]
  (try((repeat(revert hN;revert N;apply Pn.out));refine wk (tw @a13 (tw @a0 (tw @a2 (tw @Cc (tw @a12 (tw @hk (tw @h1 (tw @v1 (tw @uL (tw @vao (tw @gF @aa.eq_1))))))))))) ?_;(repeat(refine Pn.mk ?_;intro N hN))))
  have hB:(ph s l (ps.take k)).length<=10000*160:=by
   have h2:=EN s l (ps.take k)
   have h3:(ps.take k).length*s.aC.ah.length<=10000*160:=Nat.mul_le_mul (by rw[List.length_take];omega) JG
   omega
  refine aJ (fun n env st=>∃t:Nat,n=(s.aC.ah.length)-t/\t<=(s.aC.ah.length)/\env 24=.int .i64 (t:Int)/\st.get ⟨118004002,st_a.next+1⟩=some ⟨true,2,[aa (fo ps k)]⟩/\(st_a.next+2<=st.next/\(∀y:Id,y.aZ<σ.next->st.get y=σ.get y)/\Lm σ.next (ph s l (ps.take k)++w9 s l (fo ps k) t) (env 7) st.get st.next)) (s.aC.ah.length) ⟨0,by omega,by omega,sl (tw @a13 (tw @a0 (tw @a2 (tw @Cc (tw @a12 @aa.eq_1))))),sl (tw @a13 (tw @a0 (tw @a2 (tw @Cc (tw @a12 @aa.eq_1))))),by(try dsimp only);exact⟨by omega,fun y hy=>by
   have h2:=dw (i:=y) (n:=st_a.next) (by omega)
   have h3:=dv y hy
   simp only[go_sem, ↓reduceIte,Nat.reduceEqDiff,Nat.reduceAdd,Nat.reduceSub,Nat.reduceLeDiff,reduceCtorEq,h2,h3],by
   rw[show w9 s l (fo ps k) 0=[]from rfl,List.append_nil]
   rcases a7 with⟨h2,h3⟩|⟨u,h2,h3,h4,h5,h6,h8⟩
   ·exact .inl ⟨h2,sd @h3⟩
   ·have h7:=dw h5
    exact .inr ⟨u,sd @h2,sd (tw @h3 @h7),h4,by omega,h6,h8⟩⟩⟩ ?_
  rintro n_b env_b st_b ⟨t,rfl,ble,b24,bg0,bI0⟩ ej
  have b0:=ej 0 (by kernel_rfl);have b2:=ej 2 (by kernel_rfl);have b9:=ej 9 (by kernel_rfl);have DX:=ej 11 (by kernel_rfl);have Jp:=ej 12 (by kernel_rfl);have Jq:=ej 13 (by kernel_rfl);have Jr:=ej 23 (by kernel_rfl)
  simp only[go_sem, ↓reduceIte,Nat.reduceEqDiff,Nat.reduceAdd,Nat.reduceSub,Nat.reduceLeDiff,reduceCtorEq,a13,a0,a2,Cc,a12,aa]at b0 b2 b9 DX Jp Jq Jr
  clear ej
  obtain⟨bn,ej,b7⟩:=bI0
  have hb:G7 st_b.get st_b.next A S C c T O s l:=h.frame (by omega) ej
  have tU:=dw (i:=⟨118004002,st_a.next+1⟩) (n:=st_b.next) (by(try dsimp only);omega)
  have GB:(ph s l (ps.take k)++w9 s l (fo ps k) t).length<=16777215:=by
   have:=zM s l (fo ps k) t
   rw[List.length_append];omega
  obtain⟨L,hL⟩:∃L,ph s l (ps.take k)++w9 s l (fo ps k) t=L:=⟨_,rfl⟩
  rw[hL]at b7 GB
  by_cases ht:(t:Int)<(s.aC.ah.length:Int)
  ·have eL:∀{e:Env} {gg:Rows} {nx:Nat},(e 24=.int .i64 (IntKind.i64.wrap ((t:Int)+1)))->(gg ⟨118004002,st_a.next+1⟩=some ⟨true,2,[aa (fo ps k)]⟩)->(st_a.next+2<=nx/\(∀y:Id,y.aZ<σ.next->gg y=σ.get y)/\Lm σ.next (ph s l (ps.take k)++w9 s l (fo ps k) (t+1)) (e 7) gg nx)->∃m0,m0<(s.aC.ah.length)-t/\∃t:Nat,m0=(s.aC.ah.length)-t/\t<=(s.aC.ah.length)/\e 24=.int .i64 (t:Int)/\gg ⟨118004002,st_a.next+1⟩=some ⟨true,2,[aa (fo ps k)]⟩/\(st_a.next+2<=nx/\(∀y:Id,y.aZ<σ.next->gg y=σ.get y)/\Lm σ.next (ph s l (ps.take k)++w9 s l (fo ps k) t) (e 7) gg nx):=fun x1 x2 x3=>⟨_,by omega,t+1,rfl,by omega,(by rw[x1,ax (by omega)]),x2,x3⟩
   have Ns:t<s.aC.ah.length:=by omega
   (try((repeat(revert hN;revert N;apply Pn.out));refine wk (tw @b24 (tw @bg0 (tw @b0 (tw @b2 (tw @b9 (tw @DX (tw @Jp (tw @Jq (tw @Jr (tw @ht (tw @tU @aa.eq_1))))))))))) ?_;(repeat(refine Pn.mk ?_;intro N hN))))
   refine .inl ⟨_,Jl (hb.frame (by(try dsimp only);omega) (fun y hy=>by
    have h2:=dw hy
    simp only[go_sem, ↓reduceIte,Nat.reduceEqDiff,Nat.reduceAdd,Nat.reduceSub,Nat.reduceLeDiff,reduceCtorEq,h2])) hS hA (fo ps k) hx hy t (wi Ns),?_⟩
   refine hN _ _ ?_
   clear hN N
   cases hw:JJ s l (fo ps k) t
   ·have iU:ph s l (ps.take k)++w9 s l (fo ps k) (t+1)=L:=by rw[w9,hw];exact hL
    (try((repeat(revert hN;revert N;apply Pn.out));refine wk (tw @b24 (tw @bg0 (tw @b0 (tw @b2 (tw @b9 (tw @DX (tw @Jp (tw @Jq (tw @Jr @hw))))))))) ?_;(repeat(refine Pn.mk ?_;intro N hN))))
    refine eL ?_ ?_ (by(try dsimp only);exact⟨by omega,fun y hy=>by
     have h2:=dw (i:=y) (n:=st_b.next) (by omega)
     have h3:=ej y hy
     simp only[go_sem, ↓reduceIte,Nat.reduceEqDiff,Nat.reduceAdd,Nat.reduceSub,Nat.reduceLeDiff,reduceCtorEq,h2,h3],by
     rw[iU]
     rcases b7 with⟨h2,h3⟩|⟨u,h2,h3,h4,h5,h6,h8⟩
     ·exact .inl ⟨h2,sd @h3⟩
     ·have h7:=dw h5
      exact .inr ⟨u,sd @h2,sd (tw @h3 @h7),h4,by omega,h6,h8⟩⟩)
    all_goals simp only[go_sem, ↓reduceIte,Nat.reduceEqDiff,Nat.reduceAdd,Nat.reduceSub,Nat.reduceLeDiff,reduceCtorEq,b24,bg0,b0,b2,b9,DX,Jp,Jq,Jr,tU,aa]
   ·have iU:ph s l (ps.take k)++w9 s l (fo ps k) (t+1)=L++[⟨fo ps k,(t:Nat)⟩]:=by rw[w9,hw,if_pos rfl,<-hL,List.append_assoc]
    have GG:(L++[(⟨fo ps k,(t:Nat)⟩:ae)]).length=L.length+1:=by rw[List.length_append];rfl
    have z6:(L++[(⟨fo ps k,(t:Nat)⟩:ae)]).map ad=L.map ad++[[.int .i64 (fo ps k).eM,.int .i64 (fo ps k).ep,.int .i64 (t:Int)]]:=by rw[List.map_append];rfl
    rcases b7 with⟨h2,b7⟩|⟨u,b7,bu,h4,h5,h6,h8⟩
    ·subst h2
     (try((repeat(revert hN;revert N;apply Pn.out));refine wk (tw @b24 (tw @bg0 (tw @b0 (tw @b2 (tw @b9 (tw @DX (tw @Jp (tw @Jq (tw @Jr (tw @b7 (tw @hw (tw @tU @aa.eq_1)))))))))))) ?_;(repeat(refine Pn.mk ?_;intro N hN))))
     refine eL ?_ ?_ (by(try dsimp only);exact⟨by omega,fun y hy=>by
      have h2:=dw (i:=y) (n:=st_b.next) (by omega)
      have h3:=ej y hy
      simp only[go_sem, ↓reduceIte,Nat.reduceEqDiff,Nat.reduceAdd,Nat.reduceSub,Nat.reduceLeDiff,reduceCtorEq,h2,h3],.inr ⟨⟨118009005,st_b.next+1+1+1⟩,by rw[iU,GG];simp only[go_sem, ↓reduceIte,Nat.reduceEqDiff,Nat.reduceAdd,Nat.reduceSub,Nat.reduceLeDiff,reduceCtorEq]<;>rfl,by rw[iU,z6];simp only[go_sem, ↓reduceIte,Nat.reduceEqDiff,Nat.reduceAdd,Nat.reduceSub,Nat.reduceLeDiff,reduceCtorEq]<;>rfl,by(try dsimp only);omega,by(try dsimp only);omega,by rw[iU,GG];omega,rfl⟩⟩)
     all_goals simp only[go_sem, ↓reduceIte,Nat.reduceEqDiff,Nat.reduceAdd,Nat.reduceSub,Nat.reduceLeDiff,reduceCtorEq,b24,bg0,b0,b2,b9,DX,Jp,Jq,Jr,tU,aa]
    ·have Je:=dw h5
     have ux:((⟨118004002,st_a.next+1⟩:Id)=u)=False:=eq_false fun e=>by rw[<-e]at h8;exact absurd (show(118004002:Nat)=118009005 from h8) (by decide)
     have pS:(L.map ad).length=L.length:=by simp
     (try((repeat(revert hN;revert N;apply Pn.out));refine wk (tw @b24 (tw @bg0 (tw @b0 (tw @b2 (tw @b9 (tw @DX (tw @Jp (tw @Jq (tw @Jr (tw @b7 (tw @bu (tw @hw (tw @tU (tw @Je (tw @ux (tw @pS (tw @GB @aa.eq_1))))))))))))))))) ?_;(repeat(refine Pn.mk ?_;intro N hN))))
     refine eL ?_ ?_ (by(try dsimp only);exact⟨by omega,fun y hy=>by
      have h2:=dw (i:=y) (n:=st_b.next) (by omega)
      have h3:=ej y hy
      have h9:=dm (a:=y) (b:=u) (by omega)
      simp only[go_sem, ↓reduceIte,Nat.reduceEqDiff,Nat.reduceAdd,Nat.reduceSub,Nat.reduceLeDiff,reduceCtorEq,h2,h3,h9],.inr ⟨⟨118009005,st_b.next+1+1+1⟩,by rw[iU,GG];simp only[go_sem, ↓reduceIte,Nat.reduceEqDiff,Nat.reduceAdd,Nat.reduceSub,Nat.reduceLeDiff,reduceCtorEq]<;>rfl,by rw[iU,z6];simp only[go_sem, ↓reduceIte,Nat.reduceEqDiff,Nat.reduceAdd,Nat.reduceSub,Nat.reduceLeDiff,reduceCtorEq]<;>rfl,by(try dsimp only);omega,by(try dsimp only);omega,by rw[iU,GG];omega,rfl⟩⟩)
     all_goals simp only[go_sem, ↓reduceIte,Nat.reduceEqDiff,Nat.reduceAdd,Nat.reduceSub,Nat.reduceLeDiff,reduceCtorEq,b24,bg0,b0,b2,b9,DX,Jp,Jq,Jr,tU,ux,aa]
  ·have ht4:t=s.aC.ah.length:=by omega
   subst ht4
   (try((repeat(revert hN;revert N;apply Pn.out));refine wk (tw @b24 (tw @bg0 (tw @b0 (tw @b2 (tw @b9 (tw @DX (tw @Jp (tw @Jq (tw @Jr @ht))))))))) ?_;(repeat(refine Pn.mk ?_;intro N hN))))
   exact cw (sd (tw @a13 (tw @a0 (tw @a2 (tw @Cc (tw @a12 (tw @b24 (tw @bg0 (tw @b0 (tw @b2 (tw @b9 (tw @DX (tw @Jp (tw @Jq @Jr)))))))))))))) (by(try dsimp only);exact⟨by omega,fun y hy=>ej y hy,by
    rw[Jf e7,hL]
    rcases b7 with⟨h2,h3⟩|⟨u,h2,h3,h4,h5,h6,h8⟩
    ·exact .inl ⟨h2,sd @h3⟩
    ·exact .inr ⟨u,sd @h2,sd @h3,h4,by omega,h6,h8⟩⟩)
 ·have kW:k=ps.length:=by omega
  subst kW
  rw[List.take_length]at a7
  (try((repeat(revert hN;revert N;apply Pn.out));refine wk (tw @a13 (tw @a0 (tw @a2 (tw @Cc (tw @a12 @hk))))) ?_;(repeat(refine Pn.mk ?_;intro N hN))))
  refine gK (.inl rfl) (vs:=[env_a 7]) (sd @Nat.zero_add) ?_
  rcases a7 with⟨h2,h3⟩|⟨u,h2,h3,h4,h5,h6,h8⟩
  ·exact .inl ⟨h2,h3⟩
  ·exact .inr ⟨u,h2,h3,h4,by(try dsimp only);omega,h6,h8⟩
end Go.Proofs.YtgoelphibofcmaaGreat.V

namespace Go.Proofs.YtgoelphibofcmaaGreat.V
open Go.RowKit
attribute [local irreducible] dD wpOps gI Call
attribute [local go_sem] aK fW eU gE gy cE upd ck K.av cN AV.cells AV.cell rowOf rowsOf part ld rowAt bB bY dO ev iI bK db eI gr e8 dx eB cZ cY ea ec bQ aY cQ bP cU cR ez eC eA cP bV da ew bL aL cW cF iH bz cK bR aU dh aT dP AV.undef bF bG eh eu dX dY cI eH eK cD eE eD cV cX List.getD_cons_zero List.getD_cons_succ List.getD_nil List.all_cons List.all_nil Bool.and_true Bool.true_and Bool.and_self Bool.not_true Bool.not_false Option.map_some Option.map_none Option.bind_some Option.bind_none List.length_cons List.length_nil List.take_succ_cons List.take_zero List.take_nil List.drop_succ_cons List.drop_zero List.drop_nil List.head?_cons List.map_cons List.map_nil List.getElem?_cons_zero List.getElem?_cons_succ List.cons_append List.nil_append List.append_nil List.length_map List.set_cons_zero List.set_cons_succ Nat.reduceMul eq_self Int.toNat_natCast Int.natCast_nonneg and_self true_and and_true decide_true decide_false Bool.false_eq_true Nat.zero_add Nat.add_zero List.contains_cons List.contains_nil Bool.or_false Bool.false_or beq_self_eq_true Nat.reduceBEq ne_eq not_true_eq_false not_false_eq_true Id.mk.injEq false_and and_false Nat.reduceLT Int.reduceLE Int.reduceLT Int.reduceToNat Int.reduceNeg Int.reduceAdd Nat.le_refl List.length_append beq_true beq_false Bool.not_eq_eq_eq_not or_false false_or dQ aj aq aH bd bE cm aW bc aN bf cL bU
theorem EE (a b:ai):(decide (a.eM=b.eM)&&decide (a.ep=b.ep))=decide (a=b):=by
 cases a;cases b;simp[Bool.decide_and]
theorem Cl (ps:List ai) (h0:ps≠[]) (hlen:ps.length<=1048576) (σ:ar) (id:Id) (hv:id.aZ<σ.next) (hg:σ.get id=some ⟨true,2,ps.map aa⟩):
  Call Tryz.prog 203 [.own id 0 ps.length] σ fun a σ'=>∃o:Id,a=.own o 0 ps.length/\σ'.get o=some ⟨true,2,ps.map aa⟩/\σ.next<=o.aZ/\o.aZ<σ'.next/\∀x:Id,x.aZ<σ.next->σ'.get x=σ.get x:=by
 refine gW eG rfl fun hl=>?_
 clear hl
 have h2:ps.length<=16777216:=by omega
 have hm:(ps.map aa).length=ps.length:=by simp
 have v1:=dw hv
 have ht:(ps.map aa).take ps.length=ps.map aa:=by rw[<-hm,List.take_length]
 have ha:(ps.map aa).all (fun c=>c.length==2&&c.all AV.cell)=true:=all_map fun x=>by simp[aa,AV.cell]
 (try((repeat(revert hN;revert N;apply Pn.out));refine wk (tw @hg (tw @h2 (tw @hm (tw @v1 (tw @ht @ha))))) ?_;(repeat(refine Pn.mk ?_;intro N hN))))
 exact gK (vs:=[.own ⟨203003002,σ.next+2⟩ 0 ps.length]) (.inl rfl) (sd @Nat.zero_add) ⟨_,rfl,sd @Nat.zero_add,by(try dsimp only);omega,by(try dsimp only);omega,fun x hx=>by
  have:=dw hx
  simp only[go_sem, ↓reduceIte,Nat.reduceEqDiff,Nat.reduceAdd,Nat.reduceSub,Nat.reduceLeDiff,reduceCtorEq,this]⟩
def dd (L:List ai):Nat->List ai
 |0=>[]
 |j+1=>if 0<j/\fo L j=fo L (j-1)then dd L j else dd L j++[fo L j]
theorem Hm (L:List ai):∀j,0<j->0<(dd L j).length
 |j+1,_=>by
  rw[dd]
  split
  ·rename_i h;exact Hm L j h.1
  ·simp
theorem yD {L:List ai} {x:ai}:∀j,x∈dd L j↔∃i,i<j/\fo L i=x
 |0=>by simp[dd]
 |j+1=>by
  rw[dd]
  split
  ·rename_i h
   rw[yD j]
   constructor
   ·rintro⟨i,hi,e⟩;exact⟨i,by omega,e⟩
   ·rintro⟨i,hi,e⟩
    by_cases Em:i=j
    ·subst Em;exact⟨i-1,by omega,by rw[<-h.2];exact e⟩
    ·exact⟨i,by omega,e⟩
  ·rw[List.mem_append,yD j]
   constructor
   ·rintro(⟨i,hi,e⟩|h)
    ·exact⟨i,by omega,e⟩
    ·exact⟨j,by omega,(List.mem_singleton.1 h).symm⟩
   ·rintro⟨i,hi,e⟩
    by_cases Em:i=j
    ·subst Em;exact .inr (List.mem_singleton.2 e.symm)
    ·exact .inl ⟨i,by omega,e⟩
theorem Hn {L:List ai} (hs:∀i j:Nat,i<j->j<L.length->ki (fo L j) (fo L i)=false):∀j,j<=L.length->kX (dd L j)
 |0,_=>List.Pairwise.nil
 |j+1,hj=>by
  have ih:=Hn hs j (by omega)
  rw[dd]
  split
  ·exact ih
  ·rename_i fZ
   unfold kX
   rw[List.pairwise_append]
   refine⟨ih,List.pairwise_singleton _ _,fun a ha b hb=>?_⟩
   rw[List.mem_singleton.1 hb]
   obtain⟨i,hi,rfl⟩:=(yD j).1 ha
   have h0:0<j:=by omega
   have hn:fo L j≠fo L (j-1):=fun e=>fZ ⟨h0,e⟩
   have dz:ki (fo L (j-1)) (fo L j)=true:=zb (hs (j-1) j (by omega) (by omega)) hn
   by_cases Em:i=j-1
   ·subst Em;exact dz
   ·have h1:=hs i (j-1) (by omega) (by omega)
    by_cases he:fo L (j-1)=fo L i
    ·rw[<-he];exact dz
    ·exact iq (zb h1 he) dz
theorem E9 (L:List ai) (hlen:L.length<=1000000) (σ:ar) (id:Id) (hg:σ.get id=some ⟨true,2,L.map aa⟩):
  Call Tryz.prog 204 [.own id 0 L.length] σ fun a σ'=>σ.next<=σ'.next/\(∀x:Id,x.aZ<σ.next->x≠id->σ'.get x=σ.get x)/\∃X:List ai,a=.own id 0 (dd L L.length).length/\σ'.get id=some ⟨true,2,(dd L L.length++X).map aa⟩:=by
 refine gW eG rfl fun hl=>?_
 clear hl
 by_cases h2:(L.length:Int)<2
 ·have hd:dd L L.length=L:=by
   match L,h2 with
   |[],_=>rfl
   |[a],_=>rfl
   |a::b::r,h=>simp at h;omega
  (try((repeat(revert hN;revert N;apply Pn.out));refine wk @h2 ?_;(repeat(refine Pn.mk ?_;intro N hN))))
  exact gK (vs:=[.own id 0 L.length]) (.inl rfl) (sd @Nat.zero_add) ⟨by(try dsimp only);omega,fun _ _ _=>rfl,[],by rw[hd];rfl,by simp only[hd,List.append_nil];exact hg⟩
 (try((repeat(revert hN;revert N;apply Pn.out));refine wk @h2 ?_;(repeat(refine Pn.mk ?_;intro N hN))))
 have PT:2<=L.length:=by omega
 refine aJ (fun n env st=>∃k:Nat,n=(L.length-1)-k/\k<=(L.length-1)/\env 3=.int .i64 ((1+k:Nat):Int)/\(dd L (1+k)=L.take (1+k))/\(σ.next<=st.next/\∀x:Id,x.aZ<σ.next->x≠id->st.get x=σ.get x)/\st.get id=some ⟨true,2,L.map aa⟩) (L.length-1) ⟨0,by omega,by omega,sl @hg,by(match L,PT with|a::b::r,_=>rfl),⟨by(try dsimp only);omega,fun _ _ _=>rfl⟩,sl @hg⟩ ?_
 rintro n_a env_a st_a ⟨k,rfl,ale,a3,nj,aI1,ag0⟩ dv
 have a0:=dv 0 (by kernel_rfl)
 simp only[go_sem, ↓reduceIte,Nat.reduceEqDiff,Nat.reduceAdd,Nat.reduceSub,Nat.reduceLeDiff,reduceCtorEq,hg]at a0
 clear dv
 have hR:∀{q:Nat},q<L.length->(L.map aa)[q]? =some (aa (fo L q)):=fun h=>qQ h
 by_cases hk:((1+k:Nat):Int)<(L.length:Int)
 ·have cw:∀{e:Env} {gg:Rows} {nx:Nat},(e 3=.int .i64 ((1+(k+1):Nat):Int))->(dd L (1+(k+1))=L.take (1+(k+1)))->(σ.next<=nx/\∀x:Id,x.aZ<σ.next->x≠id->gg x=σ.get x)->(gg id=some ⟨true,2,L.map aa⟩)->∃m0,m0<(L.length-1)-k/\∃k:Nat,m0=(L.length-1)-k/\k<=(L.length-1)/\e 3=.int .i64 ((1+k:Nat):Int)/\(dd L (1+k)=L.take (1+k))/\(σ.next<=nx/\∀x:Id,x.aZ<σ.next->x≠id->gg x=σ.get x)/\gg id=some ⟨true,2,L.map aa⟩:=fun x1 x2 x3 x4=>⟨_,by omega,k+1,rfl,by omega,x1,x2,x3,x4⟩
  have e7:1+k<L.length:=by omega
  have e1:IntKind.i64.wrap (((1+k:Nat):Int)-1)=(k:Int):=by rw[bp (by omega)];omega
  have e2:IntKind.i64.wrap (((1+k:Nat):Int)+1)=((1+(k+1):Nat):Int):=by rw[bp (by omega)];omega
  have g1:=hR e7
  have g2:=hR (show k<L.length by omega)
  have b2:(k:Int)<(L.length:Int):=by omega
  have J5:dd L (1+k+1)=if 0<1+k/\fo L (1+k)=fo L (1+k-1)then dd L (1+k)else dd L (1+k)++[fo L (1+k)]:=rfl
  rw[show 1+k-1=k from by omega]at J5
  cases he:(decide ((fo L (1+k)).eM=(fo L k).eM)&&decide ((fo L (1+k)).ep=(fo L k).ep))
  ·(try((repeat(revert hN;revert N;apply Pn.out));refine wk (tw @a3 (tw @ag0 (tw @a0 (tw @hk (tw @e1 (tw @g1 (tw @g2 (tw @b2 (tw @he @aa.eq_1))))))))) ?_;(repeat(refine Pn.mk ?_;intro N hN))))
   rw[EE,decide_eq_false_iff_not]at he
   refine cw ?_ (by rw[show 1+(k+1)=1+k+1 from by omega,J5,if_neg (fun h=>he h.2),nj,List.take_succ_eq_append_getElem e7,gP e7]) (by exact⟨by(try dsimp only);omega,fun x hx hi=>aI1.2 x hx hi⟩) ?_
   all_goals simp only[go_sem, ↓reduceIte,Nat.reduceEqDiff,Nat.reduceAdd,Nat.reduceSub,Nat.reduceLeDiff,reduceCtorEq,a3,ag0,a0,e2]
  ·have PD:=he
   rw[EE,decide_eq_true_eq]at PD
   rw[if_pos ⟨by omega,PD⟩,nj]at J5
   have AM:(dd L (1+k+1)).length=1+k:=by rw[J5,List.length_take];omega
   have OL:L.map aa=(dd L (1+k+1)++L.drop (dd L (1+k+1)).length).map aa:=by rw[AM,J5,List.take_append_drop]
   have b3:((1+k:Nat):Int)<=(L.length:Int):=by omega
   have Kk:(dd L (1+k+1)++L.drop (1+k)).map aa=L.map aa:=by rw[OL,AM]
   (try((repeat(revert hN;revert N;apply Pn.out));refine wk (tw @a3 (tw @ag0 (tw @a0 (tw @hk (tw @e1 (tw @g1 (tw @g2 (tw @b2 (tw @b3 (tw @he @aa.eq_1)))))))))) ?_;(repeat(refine Pn.mk ?_;intro N hN))))
   refine aJ (fun n env st=>∃m:Nat,n=(L.length-(1+k)-1)-m/\m<=(L.length-(1+k)-1)/\env 5=.int .i64 ((1+m:Nat):Int)/\env 3=.int .i64 ((dd L (1+k+1+m)).length:Int)/\((dd L (1+k+1+m)).length<=1+k+m)/\(σ.next<=st.next/\∀x:Id,x.aZ<σ.next->x≠id->st.get x=σ.get x)/\st.get id=some ⟨true,2,(dd L (1+k+1+m)++L.drop (dd L (1+k+1+m)).length).map aa⟩) (L.length-(1+k)-1) ⟨0,by omega,by omega,sl (tw @a3 (tw @ag0 (tw @a0 (tw @AM @Kk)))),sl (tw @a3 (tw @ag0 (tw @a0 (tw @AM @Kk)))),by(rw[Nat.add_zero,AM];omega),⟨by(try dsimp only);omega,fun x hx hi=>aI1.2 x hx hi⟩,sl (tw @a3 (tw @ag0 (tw @a0 (tw @AM @Kk))))⟩ ?_
   rintro n_b env_b st_b ⟨m,rfl,ble,b5,b3,bI0,bI1,bg0⟩ ej
   have b0:=ej 0 (by kernel_rfl);have b4:=ej 4 (by kernel_rfl)
   simp only[go_sem, ↓reduceIte,Nat.reduceEqDiff,Nat.reduceAdd,Nat.reduceSub,Nat.reduceLeDiff,reduceCtorEq,a3,ag0,a0,AM,Kk]at b0 b4
   clear ej
   clear OL Kk he ag0
   have fA:∀{q:Nat},(dd L (1+k+1+m)).length<=q->q<L.length->((dd L (1+k+1+m)++L.drop (dd L (1+k+1+m)).length).map aa)[q]? =some (aa (fo L q)):=fun {q} h1 h2=>by
    rw[List.getElem?_map,List.getElem?_append_right h1,List.getElem?_drop,show(dd L (1+k+1+m)).length+(q-(dd L (1+k+1+m)).length)=q from by omega,List.getElem?_eq_getElem h2,gP h2];rfl
   have J6:dd L (1+k+1+(m+1))=if 0<1+k+1+m/\fo L (1+k+1+m)=fo L (1+k+1+m-1)then dd L (1+k+1+m)else dd L (1+k+1+m)++[fo L (1+k+1+m)]:=rfl
   rw[show 1+k+1+m-1=1+k+m from by omega]at J6
   have hKn:=Hm L (1+k+1+m) (by omega)
   by_cases hm:((1+m:Nat):Int)<((L.length-(1+k):Nat):Int)
   ·have eL:∀{e:Env} {gg:Rows} {nx:Nat},(e 5=.int .i64 ((1+(m+1):Nat):Int))->(e 3=.int .i64 ((dd L (1+k+1+(m+1))).length:Int))->((dd L (1+k+1+(m+1))).length<=1+k+(m+1))->(σ.next<=nx/\∀x:Id,x.aZ<σ.next->x≠id->gg x=σ.get x)->(gg id=some ⟨true,2,(dd L (1+k+1+(m+1))++L.drop (dd L (1+k+1+(m+1))).length).map aa⟩)->∃m0,m0<(L.length-(1+k)-1)-m/\∃m:Nat,m0=(L.length-(1+k)-1)-m/\m<=(L.length-(1+k)-1)/\e 5=.int .i64 ((1+m:Nat):Int)/\e 3=.int .i64 ((dd L (1+k+1+m)).length:Int)/\((dd L (1+k+1+m)).length<=1+k+m)/\(σ.next<=nx/\∀x:Id,x.aZ<σ.next->x≠id->gg x=σ.get x)/\gg id=some ⟨true,2,(dd L (1+k+1+m)++L.drop (dd L (1+k+1+m)).length).map aa⟩:=fun x1 x2 x3 x4 x5=>⟨_,by omega,m+1,rfl,by omega,x1,x2,x3,x4,x5⟩
    have f1:IntKind.i64.wrap (((1+m:Nat):Int)-1)=(m:Int):=by rw[bp (by omega)];omega
    have f2:IntKind.i64.wrap (((1+m:Nat):Int)+1)=((1+(m+1):Nat):Int):=by rw[bp (by omega)];omega
    have f3:(m:Int)<((L.length-(1+k):Nat):Int):=by omega
    have r1:=fA (q:=1+k+(1+m)) (by omega) (by omega)
    have r2:=fA (q:=1+k+m) (by omega) (by omega)
    rw[show 1+k+1+m=1+k+(1+m)from by omega]at *
    generalize hD:dd L (1+k+(1+m))=D at *
    have hK:D.length<L.length:=by omega
    have s1:=fA (q:=D.length) (Nat.le_refl _) hK
    have u4:(D.length:Int)<(L.length:Int):=by omega
    have f4:IntKind.i64.wrap ((D.length:Int)+1)=((D.length+1:Nat):Int):=ax (by omega)
    cases hc:(decide ((fo L (1+k+(1+m))).eM=(fo L (1+k+m)).eM)&&decide ((fo L (1+k+(1+m))).ep=(fo L (1+k+m)).ep))
    ·have yP:=hc
     rw[EE,decide_eq_false_iff_not]at yP
     rw[if_neg (fun h=>yP h.2)]at J6
     have e6:((D++L.drop D.length).map aa).set D.length [.int .i64 (fo L (1+k+(1+m))).eM,.int .i64 (fo L (1+k+(1+m))).ep]=((D++[fo L (1+k+(1+m))])++L.drop (D.length+1)).map aa:=by
      have:(D++L.drop D.length).set D.length (fo L (1+k+(1+m)))=(D++[fo L (1+k+(1+m))])++L.drop (D.length+1):=by
       rw[List.set_append_right _ _ (Nat.le_refl _),Nat.sub_self,List.drop_eq_getElem_cons hK,List.set_cons_zero,List.append_assoc];rfl
      rw[<-this,List.map_set];rfl
     (try((repeat(revert hN;revert N;apply Pn.out));refine wk (tw @b5 (tw @b3 (tw @bg0 (tw @b0 (tw @b4 (tw @hm (tw @f1 (tw @f3 (tw @r1 (tw @r2 (tw @s1 (tw @u4 (tw @hc (tw @e6 @aa.eq_1)))))))))))))) ?_;(repeat(refine Pn.mk ?_;intro N hN))))
     refine eL ?_ ?_ (by rw[J6];simp;omega) (by exact⟨by(try dsimp only);omega,fun x hx hi=>by
      have h1:=eq_false hi
      have h2:=bI1.2 x hx hi
      simp only[go_sem, ↓reduceIte,Nat.reduceEqDiff,Nat.reduceAdd,Nat.reduceSub,Nat.reduceLeDiff,reduceCtorEq,h1,h2]⟩) ?_
     all_goals simp only[go_sem, ↓reduceIte,Nat.reduceEqDiff,Nat.reduceAdd,Nat.reduceSub,Nat.reduceLeDiff,reduceCtorEq,b5,b3,bg0,b0,b4,f2,f4,J6,e6,aa]
    ·have yP:=hc
     rw[EE,decide_eq_true_eq]at yP
     rw[if_pos ⟨by omega,yP⟩]at J6
     (try((repeat(revert hN;revert N;apply Pn.out));refine wk (tw @b5 (tw @b3 (tw @bg0 (tw @b0 (tw @b4 (tw @hm (tw @f1 (tw @f3 (tw @r1 (tw @r2 (tw @s1 (tw @u4 (tw @hc @aa.eq_1))))))))))))) ?_;(repeat(refine Pn.mk ?_;intro N hN))))
     refine eL ?_ ?_ (by rw[J6];omega) (by exact⟨by(try dsimp only);omega,fun x hx hi=>bI1.2 x hx hi⟩) ?_
     all_goals simp only[go_sem, ↓reduceIte,Nat.reduceEqDiff,Nat.reduceAdd,Nat.reduceSub,Nat.reduceLeDiff,reduceCtorEq,b5,b3,bg0,b0,b4,f2,J6,aa]
   ·have hJ:1+k+1+m=L.length:=by omega
    rw[hJ]at bI0 bg0 b3
    generalize hD:dd L L.length=D at *
    have hK:D.length<L.length:=by omega
    have u4:(D.length:Int)<=(L.length:Int):=by omega
    have u5:D.length+(L.length-D.length)=L.length:=by omega
    have u6:(L.length-D.length)=(L.drop D.length).length:=by simp
    have c1:((D++L.drop D.length).map aa).take D.length=D.map aa:=by rw[<-List.map_take,List.take_append_of_le_length (Nat.le_refl _),List.take_length]
    have c2:((D++L.drop D.length).map aa).drop L.length=[]:=List.drop_eq_nil_of_le (by simp;omega)
    have c3:D.length+(L.length-D.length)<=((D++L.drop D.length).map aa).length:=by simp
    have u7:L.length<=D.length+(L.drop D.length).length:=by simp;omega
    (try((repeat(revert hN;revert N;apply Pn.out));refine wk (tw @b5 (tw @b3 (tw @bg0 (tw @b0 (tw @b4 (tw @hm (tw @u4 (tw @u5 (tw @u7 (tw @c1 (tw @c2 @aa.eq_1))))))))))) ?_;(repeat(refine Pn.mk ?_;intro N hN))))
    refine gK (vs:=[.own id 0 D.length]) (.inl rfl) (by simp only[e5,gV,Nat.sub_zero,go_sem, ↓reduceIte,Nat.reduceEqDiff,Nat.reduceAdd,Nat.reduceSub,Nat.reduceLeDiff,reduceCtorEq]) ⟨by(try dsimp only);omega,fun x hx hi=>by
      have h1:=eq_false hi
      have h2:=bI1.2 x hx hi
      simp only[go_sem, ↓reduceIte,Nat.reduceEqDiff,Nat.reduceAdd,Nat.reduceSub,Nat.reduceLeDiff,reduceCtorEq,h1,h2],List.replicate (L.length-D.length) ⟨0,0⟩,rfl,?_⟩
    simp only[go_sem, ↓reduceIte,Nat.reduceEqDiff,Nat.reduceAdd,Nat.reduceSub,Nat.reduceLeDiff,reduceCtorEq,bg0,c1,c2]
    simp[aa]
 ·have Re:1+k=L.length:=by omega
  have hd:dd L L.length=L:=by rw[<-Re,nj,Re,List.take_length]
  (try((repeat(revert hN;revert N;apply Pn.out));refine wk (tw @a3 (tw @ag0 (tw @a0 @hk))) ?_;(repeat(refine Pn.mk ?_;intro N hN))))
  exact gK (vs:=[.own id 0 L.length]) (.inl rfl) (sd (tw @a3 (tw @ag0 @a0))) ⟨by(try dsimp only);omega,fun x hx hi=>aI1.2 x hx hi,[],by rw[hd];rfl,by simp only[hd,List.append_nil];exact ag0⟩
end Go.Proofs.YtgoelphibofcmaaGreat.V

namespace Go.Proofs.YtgoelphibofcmaaGreat.V
open Go.RowKit Go.Shelf Go.Lib Go.Sort
instance:Inhabited ai:=⟨⟨0,0⟩⟩
variable {P:Program} {w:World} {D:Nat->Prop} {ι:Names}
theorem IA {vs:Array Value} (h:fh P w D ι [] vs):vs= #[]:=Array.eq_empty_of_size_eq_zero h.1
theorem x7 {a:AV} {r:List AV} {vs:Array Value} (h:fh P w D ι (a::r) vs):∃u us,vs=(u::us).toArray/\cq P w D ι a u/\fh P w D ι r us.toArray:=by
 obtain⟨h1,h2⟩:=h
 obtain⟨l⟩:=vs
 cases l with
 |nil=>simp at h1
 |cons u us=>
  obtain⟨u',hu,hr⟩:=h2 0 a rfl
  simp at hu;subst hu
  exact⟨u,us,rfl,hr,by simpa using h1,fun j b hj=>by
   obtain⟨v,hv,lk⟩:=h2 (j+1) b (by simpa using hj)
   exact⟨v,by simpa using hv,lk⟩⟩
def Lo:Prop:=∀(wH off cap:Nat) (d:Array ai) (w:World),HoldsK fy 2 w wH off d->wH<w.heap.size->d.size<4611686018427387904->
 Calls Tryz.prog 175 #[.slice (some ⟨wH,off,none⟩) d.size cap,.func (.func 130) #[] #[]] w fun e w'=>e=.returned (.tuple #[])/\∃d' n os,PermIn 0 d.size d d'/\SortedIn (ltOf pa) 0 d.size d'/\w'=sortWorldK fy 2 w wH off n d' os
def Lp:Prop:=∀(p:Option Addr) (cap:Nat) (fv:Value) (w:World),Calls Tryz.prog 175 #[.slice p 0 cap,fv] w fun e w'=>e=.returned (.tuple #[])/\w'=w
theorem J0 (p:ai) (j:Nat) (a:AV) (h:(aa p)[j]? =some a) (P:Program) (w:World) (D:Nat->Prop) (ι:Names):cq P w D ι a (fy p)[j]! :=by
 match j,h with
 |0,h=>simp[aa]at h;subst h;exact .eF _ _ (.int _ _)
 |1,h=>simp[aa]at h;subst h;exact .eF _ _ (.int _ _)
 |j+2,h=>simp[aa]at h
theorem Ge (hC:Lo) (hN:Lp) (ps:List ai) (hlen:ps.length<=1048576) (σ:ar) (id:Id) (hg:σ.get id=some ⟨true,2,ps.map aa⟩):
  Call Tryz.prog 175 [.own id 0 ps.length,.fn 130 []] σ fun r σ'=>σ'.next=σ.next/\(∀x,x≠id->σ'.get x=σ.get x)/\∃qs,σ'.get id=some ⟨true,2,qs.map aa⟩/\qs.length=ps.length/\(∀x,x∈qs↔x∈ps)/\∀i j:Nat,i<j->j<qs.length->ki (fo qs j) (fo qs i)=false:=by
 refine gz fun hs D ι w vs S U A=>?_
 obtain⟨u1,us1,rfl,h1,h2⟩:=x7 A
 obtain⟨u2,us2,h3,h4,h5⟩:=x7 h2
 simp at h3;subst h3
 have:=IA h5
 simp at this;subst this
 obtain⟨o,cap,B,rfl,hB,HG,ho,AK,hmax,hk⟩:=iG h1
 obtain⟨Tq,gf,rfl,_,hz,_,_⟩:=zr h4
 have hz':Tq= #[]:=Array.eq_empty_of_size_eq_zero (by simpa using hz)
 subst hz'
 by_cases h0:ps=[]
 ·subst h0
  refine(hN _ _ _ w).mono ?_
  rintro e w' ⟨rfl,rfl⟩
  exact⟨.gx [],σ.get,σ.next,D,ι,_,rfl,⟨rfl,fun _ _=>rfl,[],hg,rfl,fun x=>Iff.rfl,fun i j _ hj=>by simp at hj⟩,Step.refl _ _ _ _,S,U,Nat.le_refl _,.gx [] #[] (fun _=>Go.undef) rfl (fun j hj=>by simp at hj) (fun j a h=>by simp at h)⟩
 have k5:0<ps.length:=List.length_pos_iff.2 h0
 obtain⟨B',dr,R,jA,oI⟩:=S.row id _ hg
 rw[hB]at dr;injection dr with dr;subst dr
 replace R:=R.row hk
 have e9:B.sz=2:=R.sz
 have BW:o=0:=by rcases ho with h|h<;>omega
 subst BW
 obtain⟨cur,T,hblk,dn,wv⟩:=R.cur
 have AL:ps.length*2<=B.C:=by simpa using R.fits
 have hH:HoldsK fy 2 w B.b 0 ps.toArray:=by
  intro t ht
  rw[size_flatK]at ht
  have ht2:t<ps.length*2:=by simpa using ht
  have hi:t / 2<ps.length:=by omega
  have BU:w.frozen? ⟨B.b,0+t,none⟩=false:=by
   simp only[World.frozen?,hblk];simp
  refine⟨?_,BU⟩
  rw[get_flatK _ _ _ _ ht]
  have hd:(ps.toArray)[t / 2]! =ps[t / 2]:=by simp[getElem!_pos,hi]
  rw[hd]
  have hj:t % 2=0∨t % 2=1:=by omega
  have ht3:0+t=(t / 2)*2+t % 2:=by omega
  rw[ht3]
  rcases hj with hj|hj
  ·obtain⟨v,hv,hr⟩:=R.at_ (t / 2) 0 (aa ps[t / 2]) _ (by simp[hi]) rfl
   rw[dp hr]at hv
   rw[hj];exact hv
  ·obtain⟨v,hv,hr⟩:=R.at_ (t / 2) 1 (aa ps[t / 2]) _ (by simp[hi]) rfl
   rw[dp hr]at hv
   rw[hj];exact hv
 have mo:B.b<w.heap.size:=(Array.getElem?_eq_some_iff.1 hblk).1
 have Pu:=hC B.b 0 cap ps.toArray w hH mo (by simp;omega)
 rw[show ps.toArray.size=ps.length from by simp]at Pu
 refine Pu.mono ?_
 rintro e w' ⟨rfl,d',m,os,⟨Ep,_,En⟩,hsort,rfl⟩
 have PA:d'.size=ps.length:=by rw[Ep];simp
 have S6:d'.toList.length=ps.length:=by simpa using PA
 have hP:d'.toList.Perm ps:=by
  have e1:d'.extract 0 ps.length=d':=by rw[<-PA];exact Array.extract_size
  have e2:ps.toArray.extract 0 ps.length=ps.toArray:=by
   have:ps.length=ps.toArray.size:=by simp
   rw[this];exact Array.extract_size
  rw[e1,e2]at En
  simpa using En
 have hF:∀t,t<ps.length*2->(flatK fy 2 d')[t]! =(fy d'[t / 2]!)[t % 2]! :=fun t ht=>get_flatK _ _ _ _ (by rw[PA];exact ht)
 have hFs:(flatK fy 2 d').size=ps.length*2:=by rw[size_flatK,PA]
 have hw:sortWorldK fy 2 w B.b 0 m d' os=Go.Sort.grow (Go.Sort.putRow (fun v:Value=>v) (Go.Sort.ahead w m) B.b 0 (flatK fy 2 d')) os:=rfl
 rw[hw]
 clear hw hH
 generalize flatK fy 2 d'=Fl at hF hFs ⊢
 have uQ:=S.put (r':=⟨true,2,d'.toList.map aa⟩) (cur':=Go.Sort.putCells (fun v:Value=>v) 0 Fl cur) hg rfl hB hblk (by simp[Go.Sort.putCells]) rfl rfl (by simpa[PA]using AL) (fun cs dn=>by
   obtain⟨x,_,rfl⟩:=List.mem_map.1 dn;rfl) (fun cs dn a ha=>by
   obtain⟨x,_,rfl⟩:=List.mem_map.1 dn
   simp[aa]at ha;rcases ha with rfl|rfl<;>rfl) (fun i j cs a hi hj=>by
   have xC:i<d'.toList.length:=by
    have:=(List.getElem?_eq_some_iff.1 hi).1
    simpa using this
   have hj2:j<2:=by
    have:=List.mem_of_getElem? hi
    obtain⟨x,_,rfl⟩:=List.mem_map.1 this
    exact(List.getElem?_eq_some_iff.1 hj).1
   have Ss:cs=aa d'[i]! :=by
    rw[List.getElem?_map,List.getElem?_eq_getElem xC]at hi
    simp at hi
    rw[<-hi,getElem!_pos d' i (by simpa using xC)]
   subst Ss
   have JG:i*2+j<ps.length*2:=by omega
   refine⟨(fy d'[i]!)[j]!,?_,J0 _ _ _ hj _ _ _ _⟩
   have nX:i*2+j<cur.size:=by rw[dn];omega
   show(Go.Sort.putCells (fun v:Value=>v) 0 Fl cur)[i*2+j]? = _
   simp only[Go.Sort.putCells,Array.getElem?_mapIdx,Array.getElem?_eq_getElem nX,Option.map_some]
   rw[if_pos ⟨Nat.zero_le _,by rw[hFs];omega⟩,Nat.sub_zero,hF _ JG,show(i*2+j) / 2=i from by omega,show(i*2+j) % 2=j from by omega])
 obtain⟨S1,rG⟩:=uQ
 have P3:(Go.Sort.putRow (fun v:Value=>v) (Go.Sort.ahead w m) B.b 0 Fl).heap.size=w.heap.size:=by simp
 have LF:∀k,k<(w.setRow B.b (Go.Sort.putCells (fun v:Value=>v) 0 Fl cur)).heap.size->(Go.Sort.grow (Go.Sort.putRow (fun v:Value=>v) (Go.Sort.ahead w m) B.b 0 Fl) os).heap[k]? =(w.setRow B.b (Go.Sort.putCells (fun v:Value=>v) 0 Fl cur)).heap[k]? :=fun k hk=>by
  have Fu:k<w.heap.size:=by simpa using hk
  rw[heap_grow_old _ _ (by rw[P3];exact Fu)]
  simp only[Go.Sort.putRow,Go.Sort.mapBlock,heap_ahead,Array.getElem?_modify]
  by_cases SI:B.b=k
  ·subst SI
   rw[setRow_heap w B.b cur _ T _ hblk,if_pos rfl,hblk];rfl
  ·rw[if_neg SI,setRow_other w B.b k _ (fun h=>SI h.symm)]
 have kh:(w.setRow B.b (Go.Sort.putCells (fun v:Value=>v) 0 Fl cur)).heap.size<=(Go.Sort.grow (Go.Sort.putRow (fun v:Value=>v) (Go.Sort.ahead w m) B.b 0 Fl) os).heap.size:=by
  rw[size_grow,P3];simp
 have S2:=S1.stay (D':=D) (ι':=ι) LF kh (fun _ h=>h) (fun b hb=>Nat.lt_of_lt_of_le (S1.dead b hb) kh) (fun _ h=>.inl h) (fun _ _ h=>h)
 have Mb:=rG.trans (Step.stay (D':=D) (ι':=ι) S1 LF kh (by simp[Go.Sort.grow,Go.Sort.putRow,Go.Sort.mapBlock,Go.Sort.ahead]) (by simp[Go.Sort.grow,Go.Sort.putRow,Go.Sort.mapBlock,Go.Sort.ahead]) (by simp[Go.Sort.grow,Go.Sort.putRow,Go.Sort.mapBlock,Go.Sort.ahead]) (fun _ h=>h) (fun _ h=>.inl h) (fun _ _ h=>h))
 refine⟨.gx [],bB σ.get id ⟨true,2,d'.toList.map aa⟩,σ.next,D,ι,_,rfl,⟨rfl,fun x hx=>by simp[bB,hx],d'.toList,by simp[bB],S6,fun x=>hP.mem_iff,fun i j Em hj=>?_⟩,Mb,S2,U,Nat.le_refl _,.gx [] #[] (fun _=>Go.undef) rfl (fun j hj=>by simp at hj) (fun j a h=>by simp at h)⟩
 have h:=hsort i j (Nat.zero_le _) Em (by omega)
 rw[ltOf,mi]at h
 have e1:d'[j]! =fo d'.toList j:=by rw[gP hj,getElem!_pos d' j (by simpa using hj)];rfl
 have hi:i<d'.toList.length:=by omega
 have e2:d'[i]! =fo d'.toList i:=by rw[gP hi,getElem!_pos d' i (by simpa using hi)];rfl
 rw[<-e1,<-e2];exact h
end Go.Proofs.YtgoelphibofcmaaGreat.V

namespace Go.Proofs
open Go.Shelf
def Tryz.Dv:Go.Shelf.Ren:=⟨fun|6=>175|15=>207|14=>206|28=>233|29=>234|20=>225|21=>226|22=>227|23=>228|24=>229|25=>230|26=>231|27=>232|46=>247|47=>248|48=>249|49=>250|50=>251|57=>267|n=>n,fun|22=>100|24=>50|25=>168|3=>3|39=>216|0=>0|53=>268|55=>270|4=>4|46=>262|45=>261|50=>177|5=>5|9=>9|66=>287|70=>291|76=>312|77=>313|n=>n,fun|n=>n⟩
theorem Tryz.IP:Go.Proofs.SlLaysF0.n6 Tryz.prog Tryz.Dv:={
 mixed:=by kernel_rfl
 f6:=⟨Tryz.f175.name,by decide,Tryz.func175.trans (congrArg some (by kernel_rfl))⟩
 f14:=⟨Tryz.f206.name,by decide,Tryz.func206.trans (congrArg some (by kernel_rfl))⟩
 f15:=Tryz.func207.trans (congrArg some (by kernel_rfl))
 f20:=⟨Tryz.f225.name,by decide,Tryz.func225.trans (congrArg some (by kernel_rfl))⟩
 f21:=⟨Tryz.f226.name,by decide,Tryz.func226.trans (congrArg some (by kernel_rfl))⟩
 f22:=⟨Tryz.f227.name,by decide,Tryz.func227.trans (congrArg some (by kernel_rfl))⟩
 f23:=⟨Tryz.f228.name,by decide,Tryz.func228.trans (congrArg some (by kernel_rfl))⟩
 f24:=⟨Tryz.f229.name,by decide,Tryz.func229.trans (congrArg some (by kernel_rfl))⟩
 f25:=⟨Tryz.f230.name,by decide,Tryz.func230.trans (congrArg some (by kernel_rfl))⟩
 f26:=⟨Tryz.f231.name,by decide,Tryz.func231.trans (congrArg some (by kernel_rfl))⟩
 f27:=⟨Tryz.f232.name,by decide,Tryz.func232.trans (congrArg some (by kernel_rfl))⟩
 f28:=Tryz.func233.trans (congrArg some (by kernel_rfl))
 f29:=Tryz.func234.trans (congrArg some (by kernel_rfl))
 f46:=⟨Tryz.f247.name,by decide,Tryz.func247.trans (congrArg some (by kernel_rfl))⟩
 f47:=Tryz.func248.trans (congrArg some (by kernel_rfl))
 f48:=Tryz.func249.trans (congrArg some (by kernel_rfl))
 f49:=⟨Tryz.f250.name,by decide,Tryz.func250.trans (congrArg some (by kernel_rfl))⟩
 f50:=⟨Tryz.f251.name,by decide,Tryz.func251.trans (congrArg some (by kernel_rfl))⟩
 f57:=⟨Tryz.f267.name,by decide,Tryz.func267.trans (congrArg some (by kernel_rfl))⟩
 t0:=Tryz.underlying0
 a0:=Tryz.isAgg0
 z0:=Tryz.sizeOf0
 v0:=Tryz.zeroValue0
 t3:=Tryz.underlying3
 a3:=Tryz.isAgg3
 z3:=Tryz.sizeOf3
 v3:=Tryz.zeroValue3
 t4:=Tryz.underlying4
 a4:=Tryz.isAgg4
 z4:=Tryz.sizeOf4
 v4:=Tryz.zeroValue4
 t5:=Tryz.underlying5
 a5:=Tryz.isAgg5
 z5:=Tryz.sizeOf5
 v5:=Tryz.zeroValue5
 t9:=Tryz.underlying9
 a9:=Tryz.isAgg9
 z9:=Tryz.sizeOf9
 v9:=Tryz.zeroValue9
 t22:=Tryz.underlying100
 a22:=Tryz.isAgg100
 z22:=Tryz.sizeOf100
 v22:=Tryz.zeroValue100
 t25:=Tryz.underlying168
 a25:=Tryz.isAgg168
 z25:=Tryz.sizeOf168
 v25:=Tryz.zeroValue168
 t39:=Tryz.underlying216
 a39:=Tryz.isAgg216
 z39:=Tryz.sizeOf216
 v39:=Tryz.zeroValue216
 t45:=Tryz.underlying261
 a45:=Tryz.isAgg261
 z45:=Tryz.sizeOf261
 v45:=Tryz.zeroValue261
 t46:=Tryz.underlying262
 a46:=Tryz.isAgg262
 z46:=Tryz.sizeOf262
 v46:=Tryz.zeroValue262
 t50:=Tryz.underlying177
 a50:=Tryz.isAgg177
 z50:=Tryz.sizeOf177
 v50:=Tryz.zeroValue177
 t53:=Tryz.underlying268
 a53:=Tryz.isAgg268
 z53:=Tryz.sizeOf268
 v53:=Tryz.zeroValue268
 t55:=Tryz.underlying270
 a55:=Tryz.isAgg270
 z55:=Tryz.sizeOf270
 v55:=Tryz.zeroValue270
 t66:=Tryz.underlying287
 a66:=Tryz.isAgg287
 z66:=Tryz.sizeOf287
 v66:=Tryz.zeroValue287
 t70:=Tryz.underlying291
 a70:=Tryz.isAgg291
 z70:=Tryz.sizeOf291
 v70:=Tryz.zeroValue291
 t76:=Tryz.underlying312
 a76:=Tryz.isAgg312
 z76:=Tryz.sizeOf312
 v76:=Tryz.zeroValue312
 t77:=Tryz.underlying313
 a77:=Tryz.isAgg313
 z77:=Tryz.sizeOf313
 v77:=Tryz.zeroValue313}
end Go.Proofs

namespace Go.Proofs.YtgoelphibofcmaaGreat.V
open Go.RowKit Go.Shelf Go.Lib Go.Sort
theorem Aq (w:World) (a b:Int):Calls Tryz.prog 178 #[.int .i64 a,.int .i64 b] w fun e w'=>e=.returned (.int .i64 (qy a b))/\w=w':=by
 go_enter Tryz.func178,Tryz.ntmps178
 go_wp2_with go_in
 all_goals
  go_ret
  exact⟨EG (by unfold qy;split<;>(try split)<;>omega),rfl⟩
theorem KM (w:World) (a b:Int) (g:Nat) (ha:w.cell? ⟨g,0,none⟩=some (.int .i64 a)) (hb:w.cell? ⟨g,1,none⟩=some (.int .i64 b)):Calls Tryz.prog 177 #[.slice (some ⟨g,0,none⟩) 2 2] w fun e w'=>e=.returned (.int .i64 (KN a b))/\w=w':=by
 go_enter Tryz.func177,Tryz.ntmps177
 go_wp2_with fail
 go_loop [8] (fun i=>∃k:Nat,k<=2/\i=.int .i64 k/\Hid ((1<=k->a=0)/\(2<=k->b=0))) (fun i=>2-(intOf i).toNat)
 case atStart=>exact⟨0,by omega,rfl,Lib.hid ⟨fun h=>by omega,fun h=>by omega⟩⟩
 case round=>
  obtain⟨k,hk,rfl,hz⟩:=hrel
  have h3:k=0∨k=1∨k=2:=by omega
  rcases h3 with rfl|rfl|rfl
  ·go_wp2_with fail
   ·rename_i h
    go_ret
    exact⟨EG (by unfold KN;simp_all),rfl⟩
   ·rename_i h
    go_round
    case rel=>exact⟨1,by omega,rfl,Lib.hid ⟨fun _=>by simpa using h,fun h=>by omega⟩⟩
    case measure=>simp[intOf]
  ·have h0:=hz.out.1 (by omega)
   replace h0:=Lib.hid h0
   go_wp2_with fail
   ·go_ret
    exact⟨EG (by unfold KN;rw[if_pos h0.out]),rfl⟩
   ·rename_i h
    go_round
    case rel=>exact⟨2,by omega,rfl,Lib.hid ⟨fun _=>h0.out,fun _=>by simpa using h⟩⟩
    case measure=>simp[intOf]
  ·have h0:=Lib.hid (hz.out.1 (by omega))
   have h1:=Lib.hid (hz.out.2 (by omega))
   go_wp2_with fail
   go_ret
   exact⟨EG (by unfold KN;rw[if_pos h0.out,h1.out]),rfl⟩
def Grown (w w':World):Prop:=∃(q:Nat) (os:Array Obj),w'=Go.Sort.grow (w.drewN q) os
theorem Grown.refl (w:World):Grown w w:=⟨0, #[],by rw[grow_empty];rfl⟩
theorem Grown.alloc {w w':World} (h:Grown w w') (o:Obj):Grown w (w'.alloc o):=by
 obtain⟨q,os,rfl⟩:=h
 exact⟨q,os++ #[o],by rw[alloc_eq_grow,grow_grow]⟩
theorem Grown.drew {w w':World} (h:Grown w w'):Grown w w'.drew:=by
 obtain⟨q,os,rfl⟩:=h
 exact⟨q+1,os,by rw[drew_grow];rfl⟩
theorem Grown.dN {w w':World} (h:Grown w w') (n:Nat):Grown w (w'.drewN n):=by
 obtain⟨q,os,rfl⟩:=h
 exact⟨q+n,os,by
  show Go.Sort.grow ((w.drewN q).drewN n) os=Go.Sort.grow (w.drewN (q+n)) os
  simp[World.drewN,Nat.add_assoc]⟩
theorem td (w:World) (a b:ai):Calls Tryz.prog 130 #[.agg #[.int .i64 a.eM,.int .i64 a.ep],.agg #[.int .i64 b.eM,.int .i64 b.ep]] w fun e w'=>e=.returned (.int .i64 (pa a b))/\Grown w w':=by
 go_enter Tryz.func130,Tryz.ntmps130
 go_wp2_with fail
 go_region_held3 (fun w'=>w'.cell? ⟨w.heap.size,0,none⟩=some (.int .i64 a.eM)/\w'.cell? ⟨w.heap.size,1,none⟩=some (.int .i64 a.ep)/\
   w'.cell? ⟨w.heap.size+1,0,none⟩=some (.int .i64 b.eM)/\w'.cell? ⟨w.heap.size+1,1,none⟩=some (.int .i64 b.ep))
  (first|go_keep)
  (first|(go_at_call 178;refine(Aq _ _ _).mono ?_;rintro e w' ⟨rfl,rfl⟩)|(go_at_call 177;refine(KM _ (qy a.ep b.ep) (qy a.eM b.eM) _ (by simp[go_sem]) (by simp[go_sem])).mono ?_;rintro e w' ⟨rfl,rfl⟩))
 go_wp2_with fail
 go_ret
 refine⟨rfl,?_⟩
 repeat(first|(with_reducible exact Grown.refl _)|(refine Grown.alloc ?_ _)|(refine Grown.drew ?_)|(refine Grown.dN ?_ _))
theorem Tp:SWO (ltOf pa) where
 irrefl x:=by rw[ltOf,mi];exact mz
 trans x y z h1 h2:=by rw[ltOf,mi]at *;exact iq h1 h2
 ntrans x y z h1 h2:=by rw[ltOf,mi]at *;rw[oK]at *;omega
theorem Qt:Lo:=fun wH off cap d w hH hblk e9=>by
 have eg:∀args w,(callFunc 130 args).run Tryz.prog w=.ok (.enter 130 args) w:=enters_of Tryz.func130 (by kernel_rfl) rfl
 have h:=AnyQ.slices_SortFunc Tryz.IP 2 Tryz.isAgg50 Tryz.sizeOf50 fy (fun _=>rfl) (fun x v hv=>by simp[fy]at hv;rcases hv with rfl|rfl<;>rfl) pa Tp 130 #[] wH off cap d w eg (fun m os dk _ x y=>(td _ x y).mono fun _ _ ⟨he,q,os',hw⟩=>⟨he,q,os',hw⟩) hH hblk e9
 exact h
theorem Qu:Lp:=fun p cap fv w=>AnyF.slices_SortFunc_none Tryz.IP p cap fv w
end Go.Proofs.YtgoelphibofcmaaGreat.V

namespace Go.Proofs.YtgoelphibofcmaaGreat.V
open Go.RowKit
attribute [local irreducible] dD wpOps gI Call
attribute [local go_sem] aK fW eU gE gy cE upd ck K.av cN AV.cells AV.cell rowOf rowsOf part ld rowAt bB bY dO ev iI bK db eI gr e8 dx eB cZ cY ea ec bQ aY cQ bP cU cR ez eC eA cP bV da ew bL aL cW cF iH bz cK bR aU dh aT dP AV.undef bF bG eh eu dX dY cI eH eK cD eE eD cV cX List.getD_cons_zero List.getD_cons_succ List.getD_nil List.all_cons List.all_nil Bool.and_true Bool.true_and Bool.and_self Bool.not_true Bool.not_false Option.map_some Option.map_none Option.bind_some Option.bind_none List.length_cons List.length_nil List.take_succ_cons List.take_zero List.take_nil List.drop_succ_cons List.drop_zero List.drop_nil List.head?_cons List.map_cons List.map_nil List.getElem?_cons_zero List.getElem?_cons_succ List.cons_append List.nil_append List.append_nil List.length_map List.set_cons_zero List.set_cons_succ Nat.reduceMul eq_self Int.toNat_natCast Int.natCast_nonneg and_self true_and and_true decide_true decide_false Bool.false_eq_true Nat.zero_add Nat.add_zero List.contains_cons List.contains_nil Bool.or_false Bool.false_or beq_self_eq_true Nat.reduceBEq ne_eq not_true_eq_false not_false_eq_true Id.mk.injEq false_and and_false Nat.reduceLT Int.reduceLE Int.reduceLT Int.reduceToNat Int.reduceNeg Int.reduceAdd Nat.le_refl List.length_append beq_true beq_false Bool.not_eq_eq_eq_not or_false false_or dQ aj aq aH bd bE cm aW bc aN bf cL bU
theorem w5 (ps qs:List ai) (hlen:ps.length<=1000000) (h0:ps≠[]) (hR:kX qs) (hm:∀x,x∈qs↔x∈ps) (σ:ar) (id:Id) (hv:id.aZ<σ.next) (hg:σ.get id=some ⟨true,2,ps.map aa⟩):
  Call Tryz.prog 172 [.own id 0 ps.length] σ fun a σ'=>∃(o:Id) (X:List ai),a=.own o 0 qs.length/\σ'.get o=some ⟨true,2,(qs++X).map aa⟩/\σ.next<=o.aZ/\o.aZ<σ'.next/\∀x:Id,x.aZ<σ.next->σ'.get x=σ.get x:=by
 refine gW eG rfl fun hl=>?_
 clear hl
 have v1:=dw hv
 (try((repeat(revert hN;revert N;apply Pn.out));refine wk (tw @hg @v1) ?_;(repeat(refine Pn.mk ?_;intro N hN))))
 refine .inr (aV _ _ _ _ _ (fun r σ1 hq=>?_) (Cl ps h0 (by omega) ⟨σ.get,_⟩ id (by(try dsimp only);omega) hg))
 obtain⟨g1,x1⟩:=σ1
 obtain⟨o,rfl,q1,q2,q3,q4⟩:=hq
 (try dsimp only at q1 q2 q3 q4)
 refine hN _ _ ?_
 clear hN N
 (try((repeat(revert hN;revert N;apply Pn.out));refine wk @Nat.zero_add ?_;(repeat(refine Pn.mk ?_;intro N hN))))
 refine .inr (aV _ _ _ _ _ (fun r σ2 hq=>?_) (Ge Qt Qu ps (by omega) ⟨g1,_⟩ o q1))
 obtain⟨g2,x2⟩:=σ2
 obtain⟨u1,u2,ss,u3,u4,u5,u6⟩:=hq
 (try dsimp only at u1 u2 u3)
 refine hN _ _ ?_
 clear hN N
 (try((repeat(revert hN;revert N;apply Pn.out));refine wk @Nat.zero_add ?_;(repeat(refine Pn.mk ?_;intro N hN))))
 rw[<-u4]
 refine .inr (aV _ _ _ _ _ (fun r σ3 hq=>?_) (E9 ss (by omega) ⟨g2,_⟩ o u3))
 obtain⟨g3,x3⟩:=σ3
 obtain⟨y1,y2,X,rfl,y3⟩:=hq
 (try dsimp only at y1 y2 y3)
 have hD:dd ss ss.length=qs:=zt (Hn u6 ss.length (Nat.le_refl _)) hR fun x=>by
  rw[yD,hm,<-u5]
  constructor
  ·rintro⟨i,hi,rfl⟩
   rw[gP hi];exact List.getElem_mem hi
  ·intro hx
   obtain⟨i,hi,rfl⟩:=List.getElem_of_mem hx
   exact⟨i,hi,gP hi⟩
 rw[hD]at y3 ⊢
 refine hN _ _ ?_
 clear hN N
 (try((repeat(revert hN;revert N;apply Pn.out));refine wk @Nat.zero_add ?_;(repeat(refine Pn.mk ?_;intro N hN))))
 exact gK (.inl rfl) (vs:=[.own o 0 qs.length]) (sd @Nat.zero_add) ⟨o,X,rfl,y3,by omega,by(try dsimp only);omega,fun x hx=>by
  have h1:x≠o:=fun e=>by rw[e]at hx;omega
  have h2:=y2 x (by(try dsimp only);omega) h1
  have h3:=u2 x h1
  have h4:=q4 x (by omega)
  exact h2.trans (h3.trans h4)⟩
end Go.Proofs.YtgoelphibofcmaaGreat.V
