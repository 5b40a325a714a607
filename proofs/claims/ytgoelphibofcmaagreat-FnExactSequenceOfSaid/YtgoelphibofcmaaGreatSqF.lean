/- Networks by matrices: one is made. -/
import Derived.Test.YtgoelphibofcmaaGreatSqE
import Derived.Test.YtgoelphibofcmaaGreatSqC
import Derived.RangeFuncCalls
import Derived.OrdersIn
import Derived.Test.YtgoelphibofcmaaGreatSqB
import Derived.Test.YtgoelphibofcmaaGreatChecked
import Derived.ProofKit
import Derived.Deep.Slices
import Derived.ChangeSame
import Derived.Test.YtgoelphibofcmaaGreatRows
import Derived.OpenShut
import Derived.ShutString
import Derived.ChangeOld
import Derived.Below
set_option linter.unusedVariables false
set_option linter.unusedSimpArgs false
set_option maxRecDepth 100000
set_option maxHeartbeats 16000000
namespace Go.Proofs.YtgoelphibofcmaaGreat.V
open Go.RowKit
attribute [local irreducible] dI wpOps gD Call
attribute [local go_sem] aM fM eP gp gm cN upd cD K.av cR AV.cells AV.cell rowOf rowsOf part ld rowAt bz cu dG ef ik bQ dh eA gj e9 dq ek dd dc dU dV bW bf cW bV cY cX ei eo ej cV ck de eh bU aT da cG ij bx cQ b4 aY dn bc dH AV.undef bF bI eb ee dP dM cJ ez eE cF er ep cZ db List.getD_cons_zero List.getD_cons_succ List.getD_nil List.all_cons List.all_nil Bool.and_true Bool.true_and Bool.and_self Bool.not_true Bool.not_false Option.map_some Option.map_none Option.bind_some Option.bind_none List.length_cons List.length_nil List.take_succ_cons List.take_zero List.take_nil List.drop_succ_cons List.drop_zero List.drop_nil List.head?_cons List.map_cons List.map_nil List.getElem?_cons_zero List.getElem?_cons_succ List.cons_append List.nil_append List.append_nil List.length_map List.set_cons_zero List.set_cons_succ Nat.reduceMul eq_self Int.toNat_natCast Int.natCast_nonneg and_self true_and and_true decide_true decide_false Bool.false_eq_true Nat.zero_add Nat.add_zero List.contains_cons List.contains_nil Bool.or_false Bool.false_or beq_self_eq_true Nat.reduceBEq ne_eq not_true_eq_false not_false_eq_true Id.mk.injEq false_and and_false Nat.reduceLT Int.reduceLE Int.reduceLT Int.reduceToNat Int.reduceNeg Int.reduceAdd Nat.le_refl List.length_append beq_true beq_false Bool.not_eq_eq_eq_not or_false false_or dO ai aj aH bp bE cz aX bl aW bj cU bH
theorem G6 (n:Nat):List.replicate n [AV.int .i64 0]=dS (fun _=>0) n:=by
 refine List.ext_getElem? fun i=>?_
 by_cases h:i<n
 ·rw[dK h,List.getElem?_replicate,if_pos h];rfl
 ·rw[List.getElem?_eq_none (by simp;omega),List.getElem?_eq_none (by rw[dB];omega)]
theorem Ah {i j:Id} {s t:Nat} (hi:i.site=s) (hj:j.site=t) (h:(s==t)=false):(i=j)=False/\(j=i)=False:=by
 constructor<;>(simp only[eq_iff_iff,iff_false];rintro rfl;rw[hi]at hj;subst hj;simp at h)
theorem B6 (cnt:Nat) (xw:1<=cnt) (hn:cnt<=1048576) (bs:List PB) (hb:∀b∈bs,b.a<cnt/\b.b<cnt) (dE:∀b∈bs,0<=b.s/\b.s<=4) (pW:bs.length<=1048576) (σ:ar):
  Call Tryz.prog 245 [.int .i64 cnt,.sl (bs.map ay)] σ fun r σ'=>∃X o1 o2 R1 R2,r=.ptr X 0 0/\FF X o1 o2 R1 R2 cnt σ'.next/\σ.next<=σ'.next/\nF σ'.get X o1 o2 R1 R2 cnt (kW bs) (fun _ _=>0)/\∀i:Id,i.bP<σ.next->σ'.get i=σ.get i:=by
 refine eT eB rfl fun hl=>?_
 clear hl
 (try((repeat(revert hN;revert N;apply Pn.out));refine wk @Nat.zero_add ?_;(repeat(refine Pn.mk ?_;intro N hN))))
 obtain⟨X,hX⟩:∃X:Id,X=⟨245001001,σ.next+1⟩:=⟨_,rfl⟩
 obtain⟨R1,TC⟩:∃R:Nat->Id,R=fun k=>⟨245004006,σ.next+3+4*k+1⟩:=⟨_,rfl⟩
 obtain⟨R2,Qm⟩:∃R:Nat->Id,R=fun k=>⟨245005006,σ.next+3+4*k+2⟩:=⟨_,rfl⟩
 have sX:X.site=245001001:=by rw[hX]
 have vX:X.bP=σ.next+1:=by rw[hX]
 have s1:∀k,(R1 k).site=245004006:=fun k=>by rw[TC]
 have s2:∀k,(R2 k).site=245005006:=fun k=>by rw[Qm]
 have v1:∀k,(R1 k).bP=σ.next+3+4*k+1:=fun k=>by rw[TC]
 have v2:∀k,(R2 k).bP=σ.next+3+4*k+2:=fun k=>by rw[Qm]
 have jJ:(0:Int)<=(cnt:Int):=by omega
 have pZ:(cnt:Int)<=((16777216:Nat):Int):=by omega
 have hz:=G6 cnt
 have t1:kZ R1 cnt 0=[]:=rfl
 have t2:kZ R2 cnt 0=[]:=rfl
 refine aV (fun n env st=>∃k:Nat,n=(cnt)-k/\k<=(cnt)/\env 11=.int .i64 (k:Int)/\env 5=(.ptr X 0 0)/\(st.next=σ.next+3+4*k/\(∀i:Id,i.bP<σ.next->st.get i=σ.get i)/\∀j,j<k->st.get (R1 j)=some ⟨true,1,dS (fun _=>0) cnt⟩/\st.get (R2 j)=some ⟨true,1,dS (fun _=>0) cnt⟩)/\((k=0/\st.get X=some ⟨true,2,[[.cq,.cq]]⟩)∨∃o1 o2:Id,o1.site=245004008/\o2.site=245005008/\o1.bP<st.next/\o2.bP<st.next/\σ.next<=o1.bP/\σ.next<=o2.bP/\st.get X=some ⟨true,2,[[.own o1 0 k,.own o2 0 k]]⟩/\st.get o1=some ⟨true,1,kZ R1 cnt k⟩/\st.get o2=some ⟨true,1,kZ R2 cnt k⟩)) (cnt) ⟨0,by omega,by omega,sl @hX,sl @hX,⟨rfl,fun i hi=>by(have Ds:=dw hi);simp only[go_sem, ↓reduceIte,Nat.reduceEqDiff,Nat.reduceAdd,Nat.reduceSub,Nat.reduceLeDiff,reduceCtorEq,Ds],fun j hj=>absurd hj (Nat.not_lt_zero j)⟩,.inl ⟨rfl,by rw[hX];simp only[go_sem, ↓reduceIte,Nat.reduceEqDiff,Nat.reduceAdd,Nat.reduceSub,Nat.reduceLeDiff,reduceCtorEq]⟩⟩ ?_
 rintro n_a env_a st_a ⟨k,rfl,ale,a11,a5,lQ,aI1⟩ dD
 have a0:=dD 0 (by kernel_rfl);have a1:=dD 1 (by kernel_rfl);have xP:=dD 10 (by kernel_rfl)
 simp only[go_sem, ↓reduceIte,Nat.reduceEqDiff,Nat.reduceAdd,Nat.reduceSub,Nat.reduceLeDiff,reduceCtorEq,hX]at a0 a1 xP
 clear dD
 obtain⟨anx,dD,aR⟩:=lQ
 have wX:=dw (i:=X) (n:=st_a.next) (by omega)
 by_cases hk:(k:Int)<(cnt:Int)
 ·have cC:∀{e:Env} {gg:Rows} {nx:Nat},(e 11=.int .i64 (IntKind.i64.wrap ((k:Int)+1)))->(e 5=(.ptr X 0 0))->(nx=σ.next+3+4*(k+1)/\(∀i:Id,i.bP<σ.next->gg i=σ.get i)/\∀j,j<(k+1)->gg (R1 j)=some ⟨true,1,dS (fun _=>0) cnt⟩/\gg (R2 j)=some ⟨true,1,dS (fun _=>0) cnt⟩)->(((k+1)=0/\gg X=some ⟨true,2,[[.cq,.cq]]⟩)∨∃o1 o2:Id,o1.site=245004008/\o2.site=245005008/\o1.bP<nx/\o2.bP<nx/\σ.next<=o1.bP/\σ.next<=o2.bP/\gg X=some ⟨true,2,[[.own o1 0 (k+1),.own o2 0 (k+1)]]⟩/\gg o1=some ⟨true,1,kZ R1 cnt (k+1)⟩/\gg o2=some ⟨true,1,kZ R2 cnt (k+1)⟩)->∃m0,m0<(cnt)-k/\∃k:Nat,m0=(cnt)-k/\k<=(cnt)/\e 11=.int .i64 (k:Int)/\e 5=(.ptr X 0 0)/\(nx=σ.next+3+4*k/\(∀i:Id,i.bP<σ.next->gg i=σ.get i)/\∀j,j<k->gg (R1 j)=some ⟨true,1,dS (fun _=>0) cnt⟩/\gg (R2 j)=some ⟨true,1,dS (fun _=>0) cnt⟩)/\((k=0/\gg X=some ⟨true,2,[[.cq,.cq]]⟩)∨∃o1 o2:Id,o1.site=245004008/\o2.site=245005008/\o1.bP<nx/\o2.bP<nx/\σ.next<=o1.bP/\σ.next<=o2.bP/\gg X=some ⟨true,2,[[.own o1 0 k,.own o2 0 k]]⟩/\gg o1=some ⟨true,1,kZ R1 cnt k⟩/\gg o2=some ⟨true,1,kZ R2 cnt k⟩):=fun x1 x2 x3 x4=>⟨_,by omega,k+1,rfl,by omega,(by rw[x1,az (by omega)]),x2,x3,x4⟩
  have fy:k<cnt:=by omega
  have xf:R1 k=⟨245004006,st_a.next+1⟩:=by rw[TC,anx]
  have vU:R2 k=⟨245005006,st_a.next+1+1⟩:=by rw[Qm,anx]
  have E8:kZ R1 cnt (k+1)=kZ R1 cnt k++[[.own ⟨245004006,st_a.next+1⟩ 0 cnt]]:=by rw[tf,xf]
  have PJ:kZ R2 cnt (k+1)=kZ R2 cnt k++[[.own ⟨245005006,st_a.next+1+1⟩ 0 cnt]]:=by rw[tf,vU]
  rcases aI1 with⟨rfl,P3⟩|⟨o1,o2,so1,so2,vo1,Rz,vn1,vn2,P3,ag1,ag2⟩
  ·(try((repeat(revert hN;revert N;apply Pn.out));refine wk (tw @a11 (tw @a5 (tw @a0 (tw @a1 (tw @xP (tw @hk (tw @wX (tw @P3 (tw @jJ (tw @pZ (tw @Int.le_refl @hz))))))))))) ?_;(repeat(refine Pn.mk ?_;intro N hN))))
   refine cC ?_ ?_ (by
    (try dsimp only)
    refine⟨by omega,fun i hi=>?_,fun j hj=>?_⟩
    ·have q1:=dw (i:=i) (n:=st_a.next) (by omega)
     have q2:=cr (a:=i) (b:=X) (by omega)
     have:=dD i hi
     simp only[go_sem, ↓reduceIte,Nat.reduceEqDiff,Nat.reduceAdd,Nat.reduceSub,Nat.reduceLeDiff,reduceCtorEq,q1,q2,this]
    ·by_cases yi:j=0
     ·subst yi
      rw[xf,vU]
      have q1:=gU sX (b:=245004006) (v:=st_a.next+1) (by decide)
      have q2:=gU sX (b:=245005006) (v:=st_a.next+1+1) (by decide)
      simp only[go_sem, ↓reduceIte,Nat.reduceEqDiff,Nat.reduceAdd,Nat.reduceSub,Nat.reduceLeDiff,reduceCtorEq,q1,q2]
     ·obtain⟨r1,r2⟩:=aR j (by omega)
      have q1:=dw (i:=R1 j) (n:=st_a.next) (by rw[v1];omega)
      have q2:=dw (i:=R2 j) (n:=st_a.next) (by rw[v2];omega)
      have q3:=Ah (s1 j) sX (by decide)
      have q4:=Ah (s2 j) sX (by decide)
      constructor
      ·simp only[go_sem, ↓reduceIte,Nat.reduceEqDiff,Nat.reduceAdd,Nat.reduceSub,Nat.reduceLeDiff,reduceCtorEq,q1,q3,r1]
      ·simp only[go_sem, ↓reduceIte,Nat.reduceEqDiff,Nat.reduceAdd,Nat.reduceSub,Nat.reduceLeDiff,reduceCtorEq,q2,q4,r2]) (.inr ⟨⟨245004008,st_a.next+1⟩,⟨245005008,st_a.next+1+1⟩,rfl,rfl,by(try dsimp only);omega,by(try dsimp only);omega,by(try dsimp only);omega,by(try dsimp only);omega,sd @wX,by rw[E8,t1];simp only[go_sem, ↓reduceIte,Nat.reduceEqDiff,Nat.reduceAdd,Nat.reduceSub,Nat.reduceLeDiff,reduceCtorEq,wX,List.nil_append],by rw[PJ,t2];simp only[go_sem, ↓reduceIte,Nat.reduceEqDiff,Nat.reduceAdd,Nat.reduceSub,Nat.reduceLeDiff,reduceCtorEq,wX,List.nil_append]⟩)
   all_goals simp only[go_sem, ↓reduceIte,Nat.reduceEqDiff,Nat.reduceAdd,Nat.reduceSub,Nat.reduceLeDiff,reduceCtorEq,a11,a5,a0,a1,xP,wX]
  ·have l1:=kc R1 cnt k
   have l2:=kc R2 cnt k
   have e1:k+1<=16777216:=by omega
   have w1:=dw vo1
   have w2:=dw Rz
   have x1:=Ah sX so1 (by decide)
   have x2:=Ah sX so2 (by decide)
   have x3:=Ah so1 so2 (by decide)
   (try((repeat(revert hN;revert N;apply Pn.out));refine wk (tw @a11 (tw @a5 (tw @a0 (tw @a1 (tw @xP (tw @hk (tw @wX (tw @P3 (tw @ag1 (tw @ag2 (tw @l1 (tw @l2 (tw @e1 (tw @w1 (tw @w2 (tw @x1 (tw @x2 (tw @x3 (tw @jJ (tw @pZ (tw @Int.le_refl @hz))))))))))))))))))))) ?_;(repeat(refine Pn.mk ?_;intro N hN))))
   refine cC ?_ ?_ (by
    (try dsimp only)
    refine⟨by omega,fun i hi=>?_,fun j hj=>?_⟩
    ·have q1:=dw (i:=i) (n:=st_a.next) (by omega)
     have q2:=cr (a:=i) (b:=X) (by omega)
     have q3:=cr (a:=i) (b:=o1) (by omega)
     have q4:=cr (a:=i) (b:=o2) (by omega)
     have:=dD i hi
     simp only[go_sem, ↓reduceIte,Nat.reduceEqDiff,Nat.reduceAdd,Nat.reduceSub,Nat.reduceLeDiff,reduceCtorEq,q1,q2,this,q3,q4]
    ·by_cases yi:j=k
     ·subst yi
      rw[xf,vU]
      have q1:=gU sX (b:=245004006) (v:=st_a.next+1) (by decide)
      have q2:=gU sX (b:=245005006) (v:=st_a.next+1+1) (by decide)
      simp only[go_sem, ↓reduceIte,Nat.reduceEqDiff,Nat.reduceAdd,Nat.reduceSub,Nat.reduceLeDiff,reduceCtorEq,q1,q2,w1,w2]
     ·obtain⟨r1,r2⟩:=aR j (by omega)
      have q1:=dw (i:=R1 j) (n:=st_a.next) (by rw[v1];omega)
      have q2:=dw (i:=R2 j) (n:=st_a.next) (by rw[v2];omega)
      have q3:=Ah (s1 j) sX (by decide)
      have q4:=Ah (s2 j) sX (by decide)
      have q5:=Ah (s1 j) so1 (by decide)
      have q6:=Ah (s1 j) so2 (by decide)
      have q7:=Ah (s2 j) so1 (by decide)
      have q8:=Ah (s2 j) so2 (by decide)
      constructor
      ·simp only[go_sem, ↓reduceIte,Nat.reduceEqDiff,Nat.reduceAdd,Nat.reduceSub,Nat.reduceLeDiff,reduceCtorEq,q1,q3,r1,q5,q6]
      ·simp only[go_sem, ↓reduceIte,Nat.reduceEqDiff,Nat.reduceAdd,Nat.reduceSub,Nat.reduceLeDiff,reduceCtorEq,q2,q4,r2,q7,q8]) (.inr ⟨⟨245004008,st_a.next+1⟩,⟨245005008,st_a.next+1+1⟩,rfl,rfl,by(try dsimp only);omega,by(try dsimp only);omega,by(try dsimp only);omega,by(try dsimp only);omega,sd @wX,by rw[E8];simp only[go_sem, ↓reduceIte,Nat.reduceEqDiff,Nat.reduceAdd,Nat.reduceSub,Nat.reduceLeDiff,reduceCtorEq,wX,w1,w2],by rw[PJ];simp only[go_sem, ↓reduceIte,Nat.reduceEqDiff,Nat.reduceAdd,Nat.reduceSub,Nat.reduceLeDiff,reduceCtorEq,wX,w1,w2]⟩)
   all_goals simp only[go_sem, ↓reduceIte,Nat.reduceEqDiff,Nat.reduceAdd,Nat.reduceSub,Nat.reduceLeDiff,reduceCtorEq,a11,a5,a0,a1,xP,wX,w1,w2,x1,x2,x3]
 have l6:cnt=k:=by omega
 subst l6
 rcases aI1 with⟨h0,_⟩|⟨o1,o2,so1,so2,vo1,Rz,vn1,vn2,P3,ag1,ag2⟩
 ·omega
 (try((repeat(revert hN;revert N;apply Pn.out));refine wk (tw @a11 (tw @a5 (tw @a0 (tw @a1 (tw @xP @hk))))) ?_;(repeat(refine Pn.mk ?_;intro N hN))))
 have I:FF X o1 o2 R1 R2 cnt st_a.next:=⟨sX,so1,so2,fun i _=>s1 i,fun i _=>s2 i,fun i j _ _ h=>by have:=v1 i;rw[h,v1]at this;omega,fun i j _ _ h=>by have:=v2 i;rw[h,v2]at this;omega,by omega,vo1,Rz,fun i hi=>by rw[v1];omega,fun i hi=>by rw[v2];omega⟩
 refine aV (fun n env st=>∃i:Nat,n=(bs.length)-i/\i<=(bs.length)/\env 38=.int .i64 (i:Int)/\(st_a.next<=st.next/\(∀x:Id,x.bP<σ.next->st.get x=σ.get x)/\nF st.get X o1 o2 R1 R2 cnt (kW (bs.take i)) (fun _ _=>0))) (bs.length) ⟨0,by omega,by omega,sl (tw @a11 (tw @a5 (tw @a0 (tw @a1 @xP)))),⟨by(try dsimp only);omega,dD,P3,ag1,ag2,fun j hj=>(aR j hj).1,fun j hj=>(aR j hj).2⟩⟩ ?_
 rintro n_b env_b st_b ⟨i,rfl,ble,b38,bI0⟩ fW
 have b0:=fW 0 (by kernel_rfl);have b1:=fW 1 (by kernel_rfl);have b5:=fW 5 (by kernel_rfl);have Pt:=fW 36 (by kernel_rfl);have Pu:=fW 37 (by kernel_rfl)
 simp only[go_sem, ↓reduceIte,Nat.reduceEqDiff,Nat.reduceAdd,Nat.reduceSub,Nat.reduceLeDiff,reduceCtorEq,a11,a5,a0,a1,xP]at b0 b1 b5 Pt Pu
 clear fW
 obtain⟨bn,Nj,bM⟩:=bI0
 by_cases hi:(i:Int)<(bs.length:Int)
 ·have ga:∀{e:Env} {gg:Rows} {nx:Nat},(e 38=.int .i64 (IntKind.i64.wrap ((i:Int)+1)))->(st_a.next<=nx/\(∀x:Id,x.bP<σ.next->gg x=σ.get x)/\nF gg X o1 o2 R1 R2 cnt (kW (bs.take (i+1))) (fun _ _=>0))->∃m0,m0<(bs.length)-i/\∃i:Nat,m0=(bs.length)-i/\i<=(bs.length)/\e 38=.int .i64 (i:Int)/\(st_a.next<=nx/\(∀x:Id,x.bP<σ.next->gg x=σ.get x)/\nF gg X o1 o2 R1 R2 cnt (kW (bs.take i)) (fun _ _=>0)):=fun x1 x2=>⟨_,by omega,i+1,rfl,by omega,(by rw[x1,az (by omega)]),x2⟩
  have ft:i<bs.length:=by omega
  have j6:(bs.map ay)[i]? =some (ay bs[i]):=by simp[ft]
  have fP:=hb _ (List.getElem_mem ft)
  have hsi:=dE _ (List.getElem_mem ft)
  have sQ:kW (bs.take (i+1))=nI (kW (bs.take i)) bs[i]:=by rw[List.take_succ_eq_append_getElem ft,DY]
  have qw:=z7 (bs.take i) (fun _ _=>0) (fun b hb=>(dE b (List.mem_of_mem_take hb)).1) (fun _ _=>Int.le_refl _)
  have hle:=room_le (bs.take i) (fun _ _=>0) 0 (fun b hb=>(dE b (List.mem_of_mem_take hb)).2) (fun _ _=>Int.le_refl _) (Int.le_refl _)
  rw[List.length_take]at hle
  have fS:(bs.take i).foldl nI (fun _ _=>0)=kW (bs.take i):=rfl
  rw[fS]at qw hle
  generalize kW (bs.take i)=c at *
  generalize bs[i]=b at *
  obtain⟨ha,sL⟩:=fP
  have gA:=r6 (R:=R1) (n:=cnt) ha
  have gB:=r6 (R:=R1) (n:=cnt) sL
  have rA:=bM.r1 _ ha
  have rB:=bM.r1 _ sL
  have cA:=dK (f:=c b.a) sL
  have cB:=dK (f:=c b.b) ha
  have sA:=ou (f:=c) (a:=b.a) (d:=b.s) sL
  have gX:=bM.x
  have g1:=bM.t1
  have gI:(b.a:Int)<(cnt:Int):=by omega
  have fP:(b.b:Int)<(cnt:Int):=by omega
  have qX:=dw (i:=X) (n:=st_b.next) (by omega)
  have q1:=dw (i:=o1) (n:=st_b.next) (by omega)
  have qA:=dw (i:=R1 b.a) (n:=st_b.next) (by rw[v1];omega)
  have qB:=dw (i:=R1 b.b) (n:=st_b.next) (by rw[v1];omega)
  have xA:=Ah sX (s1 b.a) (by decide)
  have xB:=Ah sX (s1 b.b) (by decide)
  have yA:=Ah so1 (s1 b.a) (by decide)
  have yB:=Ah so1 (s1 b.b) (by decide)
  have l1:=kc R1 cnt cnt
  have lA:=dB (c b.a) cnt
  have lB:=dB (c b.b) cnt
  have hAB:=hle b.a b.b
  have hBA:=hle b.b b.a
  have gAB:=qw b.a b.b
  have gBA:=qw b.b b.a
  have wA:IntKind.i64.wrap (c b.a b.b+b.s)=c b.a b.b+b.s:=bt (by omega)
  by_cases qv:b.a=b.b
  ·obtain⟨ba,bb,s⟩:=b
   dsimp only at *
   subst qv
   have Og:=ou (f:=bump c ba ba s) (a:=ba) (b:=ba) (d:=s) (n:=cnt) ha
   have TM:=dK (f:=bump c ba ba s ba) ha
   have hv:bump c ba ba s ba ba=c ba ba+s:=by simp[bump]
   have lC:=dB (bump c ba ba s ba) cnt
   have wB:IntKind.i64.wrap (c ba ba+s+s)=c ba ba+s+s:=bt (by omega)
   rw[hv]at Og TM
   have sM:nI c ⟨ba,ba,s⟩ ba=bump (bump c ba ba s) ba ba s ba:=rfl
   rw[bq]at cA sA Og TM
   (try((repeat(revert hN;revert N;apply Pn.out));refine wk (tw @b38 (tw @b0 (tw @b1 (tw @b5 (tw @Pt (tw @Pu (tw @hi (tw @j6 (tw @ay.eq_1 (tw @gA (tw @rA (tw @cA (tw @sA (tw @gX (tw @g1 (tw @gI (tw @qX (tw @q1 (tw @qA (tw @xA (tw @yA (tw @l1 (tw @lA (tw @wA (tw @Og (tw @TM (tw @lC @wB))))))))))))))))))))))))))) ?_;(repeat(refine Pn.mk ?_;intro N hN))))
   exact ga (sd (tw @b38 (tw @b0 (tw @b1 (tw @b5 (tw @Pt @Pu)))))) (by
    (try dsimp only)
    refine⟨by omega,fun x hx=>?_,?_⟩
    ·have p1:=dw (i:=x) (n:=st_b.next) (by omega)
     have p2:=cr (a:=x) (b:=R1 ba) (by rw[v1];omega)
     have:=Nj x hx
     simp only[go_sem, ↓reduceIte,Nat.reduceEqDiff,Nat.reduceAdd,Nat.reduceSub,Nat.reduceLeDiff,reduceCtorEq,p1,p2,this]
    ·rw[sQ]
     refine bM.add I ⟨ba,ba,s⟩ ha ha (fun h=>absurd rfl h) ?_ fun x hx h1 h2=>?_
     ·rw[sM]
      simp only[go_sem, ↓reduceIte,Nat.reduceEqDiff,Nat.reduceAdd,Nat.reduceSub,Nat.reduceLeDiff,reduceCtorEq]
     ·have p1:=dw (i:=x) (n:=st_b.next) (by omega)
      (try dsimp only at h2)
      simp only[go_sem, ↓reduceIte,Nat.reduceEqDiff,Nat.reduceAdd,Nat.reduceSub,Nat.reduceLeDiff,reduceCtorEq,p1,h2])
  ·have gW:(R1 b.a=R1 b.b)=False:=by simp only[eq_iff_iff,iff_false];exact fun h=>qv (I.i1 _ _ ha sL h)
   have IC:(R1 b.b=R1 b.a)=False:=by simp only[eq_iff_iff,iff_false];exact fun h=>qv (I.i1 _ _ ha sL h.symm)
   have N7:bump c b.a b.b b.s b.b=c b.b:=j0 fun h=>qv h.symm
   have Og:=ou (f:=bump c b.a b.b b.s) (a:=b.b) (b:=b.a) (d:=b.s) (n:=cnt) ha
   rw[N7]at Og
   have wB:IntKind.i64.wrap (c b.b b.a+b.s)=c b.b b.a+b.s:=bt (by omega)
   have sM:nI c b b.b=bump (bump c b.a b.b b.s) b.b b.a b.s b.b:=rfl
   rw[bq]at cA cB sA Og
   (try((repeat(revert hN;revert N;apply Pn.out));refine wk (tw @b38 (tw @b0 (tw @b1 (tw @b5 (tw @Pt (tw @Pu (tw @hi (tw @j6 (tw @ay.eq_1 (tw @gA (tw @gB (tw @rA (tw @rB (tw @cA (tw @cB (tw @sA (tw @gX (tw @g1 (tw @gI (tw @fP (tw @qX (tw @q1 (tw @qA (tw @qB (tw @xA (tw @xB (tw @yA (tw @yB (tw @l1 (tw @lA (tw @lB (tw @wA (tw @Og (tw @wB (tw @gW @IC))))))))))))))))))))))))))))))))))) ?_;(repeat(refine Pn.mk ?_;intro N hN))))
   exact ga (sd (tw @b38 (tw @b0 (tw @b1 (tw @b5 (tw @Pt @Pu)))))) (by
    (try dsimp only)
    refine⟨by omega,fun x hx=>?_,?_⟩
    ·have p1:=dw (i:=x) (n:=st_b.next) (by omega)
     have p2:=cr (a:=x) (b:=R1 b.b) (by rw[v1];omega)
     have p3:=cr (a:=x) (b:=R1 b.a) (by rw[v1];omega)
     have:=Nj x hx
     simp only[go_sem, ↓reduceIte,Nat.reduceEqDiff,Nat.reduceAdd,Nat.reduceSub,Nat.reduceLeDiff,reduceCtorEq,p1,p2,p3,this]
    ·rw[sQ]
     refine bM.add I b ha sL (fun h=>?_) ?_ fun x hx h1 h2=>?_
     ·simp only[go_sem, ↓reduceIte,Nat.reduceEqDiff,Nat.reduceAdd,Nat.reduceSub,Nat.reduceLeDiff,reduceCtorEq,gW]
     ·rw[sM]
      simp only[go_sem, ↓reduceIte,Nat.reduceEqDiff,Nat.reduceAdd,Nat.reduceSub,Nat.reduceLeDiff,reduceCtorEq,gW]
     ·have p1:=dw (i:=x) (n:=st_b.next) (by omega)
      simp only[go_sem, ↓reduceIte,Nat.reduceEqDiff,Nat.reduceAdd,Nat.reduceSub,Nat.reduceLeDiff,reduceCtorEq,p1,h1,h2])
 ·have lD:i=bs.length:=by omega
  subst lD
  rw[List.take_length]at bM
  (try((repeat(revert hN;revert N;apply Pn.out));refine wk (tw @b38 (tw @b0 (tw @b1 (tw @b5 (tw @Pt (tw @Pu @hi)))))) ?_;(repeat(refine Pn.mk ?_;intro N hN))))
  exact fw (.inl rfl) (vs:=[.ptr X 0 0]) (sd @Nat.zero_add) ⟨X,o1,o2,R1,R2,rfl,⟨I.sx,I.s1,I.s2,I.SQ,I.MV,I.i1,I.i2,by have:=I.vx;(try dsimp only);omega,by have:=I.v1;(try dsimp only);omega,by have:=I.v2;(try dsimp only);omega,fun j hj=>by have:=I.SS j hj;(try dsimp only);omega,fun j hj=>by have:=I.PV j hj;(try dsimp only);omega⟩,by(try dsimp only);omega,bM,Nj⟩
end Go.Proofs.YtgoelphibofcmaaGreat.V

namespace Go.Proofs.YtgoelphibofcmaaGreat.V
structure Bq (n:Nat) (c f:Nat->Nat->Int) (x:Nat) (par:Nat->Int) (Q:List Nat) (i:Nat):Prop where
 nodup:Q.Nodup
 lt:∀v∈Q,v<n
 root:par x=(x:Int)
 mem:x∈Q
 iff:∀v,v<n->(0<=par v↔v∈Q)
 up:∀v∈Q,v≠x->∃u,u∈Q/\par v=(u:Int)/\Q.idxOf u<Q.idxOf v/\f u v<c u v
 done:∀j (_:j<i) (hl:j<Q.length) (v:Nat),v<n->f Q[j] v<c Q[j] v->v∈Q
 ile:i<=Q.length
section
variable {n:Nat} {c f:Nat->Nat->Int} {x:Nat} {par:Nat->Int} {Q:List Nat} {i:Nat}
theorem Bq.len (h:Bq n c f x par Q i):Q.length<=n:=oP n Q h.nodup h.lt
theorem Bq.start (hx:x<n):Bq n c f x (fun v=>if v=x then(x:Int)else -1) [x] 0:=by
 refine⟨by simp,fun v hv=>by simp at hv;omega,by simp,by simp,fun v hv=>?_,fun v hv gW=>absurd (by simpa using hv) gW,fun j hj=>by omega,by simp⟩
 by_cases h:v=x
 ·simp[h]
 ·simp[h]
theorem Bq.visit (h:Bq n c f x par Q i) (hi:i<Q.length) {v:Nat} (hv:v<n) (hp:par v<0) (hr:f Q[i] v<c Q[i] v):Bq n c f x (fun w=>if w=v then(Q[i]:Int)else par w) (Q++[v]) i:=by
 have UG:v∉Q:=fun hm=>by have:=(h.iff v hv).2 hm;omega
 have Ou:x≠v:=fun e=>UG (e▸h.mem)
 have zE:∀u∈Q,(Q++[v]).idxOf u=Q.idxOf u:=fun u hu=>by rw[List.idxOf_append,if_pos hu]
 have vV:(Q++[v]).idxOf v=Q.length:=by rw[List.idxOf_append,if_neg UG];simp
 refine⟨?_,fun w hw=>?_,by simp only[if_neg Ou];exact h.root,by simp[h.mem],fun w hw=>?_,fun w hw gW=>?_,fun j hj hl w hw IK=>?_,by simp;omega⟩
 ·refine List.nodup_append.2 ⟨h.nodup,by simp,fun a ha b hb=>?_⟩
  rw[List.mem_singleton.1 hb]
  rintro rfl;exact UG ha
 ·rcases List.mem_append.1 hw with hw|hw
  ·exact h.lt w hw
  ·rw[List.mem_singleton.1 hw];exact hv
 ·by_cases Fa:w=v
  ·subst Fa;simp
  ·rw[if_neg Fa,h.iff w hw];simp[Fa]
 ·by_cases Fa:w=v
  ·subst Fa
   refine⟨Q[i],by simp,by simp,?_,hr⟩
   rw[zE _ (List.getElem_mem hi),vV]
   exact List.idxOf_lt_length_of_mem (List.getElem_mem hi)
  ·have hwQ:w∈Q:=by
    rcases List.mem_append.1 hw with hw|hw
    ·exact hw
    ·exact absurd (List.mem_singleton.1 hw) Fa
   obtain⟨u,h1,h2,h3,h4⟩:=h.up w hwQ gW
   exact⟨u,by simp[h1],by rw[if_neg Fa];exact h2,by rw[zE u h1,zE w hwQ];exact h3,h4⟩
 ·have gZ:j<Q.length:=by have:=h.ile;omega
  rw[List.getElem_append_left gZ]at IK
  exact List.mem_append_left _ (h.done j hj gZ w hw IK)
theorem Bq.next (h:Bq n c f x par Q i) (hi:i<Q.length) (dF:∀v,v<n->f Q[i] v<c Q[i] v->0<=par v):Bq n c f x par Q (i+1):=by
 refine⟨h.nodup,h.lt,h.root,h.mem,h.iff,h.up,fun j hj hl v hv hr=>?_,by omega⟩
 by_cases mK:j=i
 ·subst mK;exact(h.iff v hv).1 (dF v hv hr)
 ·exact h.done j (by omega) hl v hv hr
theorem Bq.cut (h:Bq n c f x par Q Q.length) {y:Nat} (hy:y<n) (hp:par y<0):∃S:Nat->Bool,S x=true/\S y=false/\∀u v,u<n->v<n->S u=true->S v=false->¬f u v<c u v:=by
 refine⟨fun v=>decide (v∈Q),by simp[h.mem],?_,fun u v hu hv h1 h2 hr=>?_⟩
 ·have:y∉Q:=fun hm=>by have:=(h.iff y hy).2 hm;omega
  simp[this]
 ·simp only[decide_eq_true_eq,decide_eq_false_iff_not]at h1 h2
  obtain⟨j,hj,rfl⟩:=List.getElem_of_mem h1
  exact h2 (h.done j hj hj v hv hr)
def uN (c f:Nat->Nat->Int) (Q:List Nat) (y k:Nat) (out:List Nat):Prop:=∃rest,out.reverse=k::rest/\(k::rest).getLast (by simp)=y/\qQ f c (k::rest)/\(k::rest).Pairwise (fun a b=>Q.idxOf a<Q.idxOf b)/\∀v∈k::rest,v∈Q
theorem uN.start {y:Nat} (hy:y∈Q):uN c f Q y y [y]:=⟨[],rfl,rfl,trivial,by simp,by simpa using hy⟩
theorem uN.step {y k u:Nat} {out:List Nat} (h:uN c f Q y k out) (hu:u∈Q) (hi:Q.idxOf u<Q.idxOf k) (hr:f u k<c u k):uN c f Q y u (out++[u]):=by
 obtain⟨rest,h1,h2,h3,h4,h5⟩:=h
 refine⟨k::rest,by rw[List.reverse_append,h1];rfl,by rw[List.getLast_cons (by simp)];exact h2,⟨hr,h3⟩,?_,?_⟩
 ·refine List.pairwise_cons.2 ⟨fun b hb=>?_,h4⟩
  rcases List.mem_cons.1 hb with rfl|hb
  ·exact hi
  ·have:=(List.pairwise_cons.1 h4).1 b hb;omega
 ·intro v hv
  rcases List.mem_cons.1 hv with rfl|hv
  ·exact hu
  ·exact h5 v hv
theorem uN.len {y k:Nat} {out:List Nat} (h:uN c f Q y k out) (hq:∀v∈Q,v<n):out.length<=n:=by
 obtain⟨rest,h1,_,_,h4,h5⟩:=h
 rw[<-List.length_reverse,h1]
 refine oP n _ (h4.imp fun dQ he=>?_) fun v hv=>hq v (h5 v hv)
 subst he;omega
structure P0 (n:Nat) (c f:Nat->Nat->Int) (x y:Nat) (p:List Nat):Prop where
 way:∃r,p=x::r/\(x::r).getLast (by simp)=y
 nodup:p.Nodup
 room:qQ f c p
 lt:∀v∈p,v<n
theorem uN.way {y:Nat} {out:List Nat} (h:uN c f Q y x out) (hq:∀v∈Q,v<n):P0 n c f x y out.reverse:=by
 obtain⟨rest,h1,h2,h3,h4,h5⟩:=h
 rw[h1]
 exact⟨⟨rest,rfl,h2⟩,h4.imp fun dQ he=>by subst he;omega,h3,fun v hv=>hq v (h5 v hv)⟩
end
end Go.Proofs.YtgoelphibofcmaaGreat.V

namespace Go.Proofs.YtgoelphibofcmaaGreat.V
open Go.RowKit
attribute [local irreducible] dI wpOps gD Call
attribute [local go_sem] aM fM eP gp gm cN upd cD K.av cR AV.cells AV.cell rowOf rowsOf part ld rowAt bz cu dG ef ik bQ dh eA gj e9 dq ek dd dc dU dV bW bf cW bV cY cX ei eo ej cV ck de eh bU aT da cG ij bx cQ b4 aY dn bc dH AV.undef bF bI eb ee dP dM cJ ez eE cF er ep cZ db List.getD_cons_zero List.getD_cons_succ List.getD_nil List.all_cons List.all_nil Bool.and_true Bool.true_and Bool.and_self Bool.not_true Bool.not_false Option.map_some Option.map_none Option.bind_some Option.bind_none List.length_cons List.length_nil List.take_succ_cons List.take_zero List.take_nil List.drop_succ_cons List.drop_zero List.drop_nil List.head?_cons List.map_cons List.map_nil List.getElem?_cons_zero List.getElem?_cons_succ List.cons_append List.nil_append List.append_nil List.length_map List.set_cons_zero List.set_cons_succ Nat.reduceMul eq_self Int.toNat_natCast Int.natCast_nonneg and_self true_and and_true decide_true decide_false Bool.false_eq_true Nat.zero_add Nat.add_zero List.contains_cons List.contains_nil Bool.or_false Bool.false_or beq_self_eq_true Nat.reduceBEq ne_eq not_true_eq_false not_false_eq_true Id.mk.injEq false_and and_false Nat.reduceLT Int.reduceLE Int.reduceLT Int.reduceToNat Int.reduceNeg Int.reduceAdd Nat.le_refl List.length_append beq_true beq_false Bool.not_eq_eq_eq_not or_false false_or dO ai aj aH bp bE cz aX bl aW bj cU bH
def lV (l:List Nat) (i x:Nat):Nat:=if x<i∨l.length-i<=x then l.getD (l.length-1-x) 0 else l.getD x 0
theorem yX (l:List Nat):l.map eN=dC (fun x=>l.getD x 0) l.length:=by
 refine List.ext_getElem? fun i=>?_
 by_cases h:i<l.length
 ·rw[fo h,List.getElem?_map,List.getElem?_eq_getElem h];simp[List.getD_eq_getElem?_getD,h]
 ·rw[List.getElem?_eq_none (by simp;omega),List.getElem?_eq_none (by rw[gh];omega)]
theorem GN (l:List Nat):dC (lV l 0) l.length=l.map eN:=by
 rw[yX]
 exact gY fun x hx=>by unfold lV;rw[if_neg (by omega)]
theorem JD (l:List Nat) {i:Nat} (h:l.length<=2*i+1) (hi:i<=l.length):dC (lV l i) l.length=l.reverse.map eN:=by
 rw[yX l.reverse,List.length_reverse]
 refine gY fun x hx=>?_
 have hr:l.reverse.getD x 0=l.getD (l.length-1-x) 0:=by
  rw[List.getD_eq_getElem?_getD,List.getElem?_reverse hx,List.getD_eq_getElem?_getD]
 rw[hr]
 unfold lV
 by_cases hc:x<i∨l.length-i<=x
 ·rw[if_pos hc]
 ·rw[if_neg hc]
  have:x=l.length-1-x:=by omega
  rw[<-this]
theorem GO (l:List Nat) (hp:0<l.length) (hl:l.length<=1048576) (o:Id) (σ:ar) (ho:σ.get o=some ⟨true,1,l.map eN⟩) (uF:o.bP<σ.next):
  Call Tryz.prog 273 [.own o 0 l.length] σ fun r σ'=>σ'.get o=some ⟨true,1,l.reverse.map eN⟩/\σ.next<=σ'.next/\∀i:Id,i.bP<σ.next->(i=o)=False->σ'.get i=σ.get i:=by
 refine eT eB rfl fun lj=>?_
 clear lj
 rw[<-GN]at ho
 have SJ:IntKind.i64.wrap ((l.length:Int)-1)=((l.length-1:Nat):Int):=by rw[bt (by omega)];omega
 (try((repeat(revert hN;revert N;apply Pn.out));refine wk @SJ ?_;(repeat(refine Pn.mk ?_;intro N hN))))
 refine aV (fun m env st=>∃i:Nat,m=l.length-i/\2*i<=l.length+1/\i<=l.length/\env 2=.int .i64 (i:Int)/\env 3=.int .i64 ((l.length:Int)-1-i)/\st.get o=some ⟨true,1,dC (lV l i) l.length⟩/\σ.next<=st.next/\∀x:Id,x.bP<σ.next->(x=o)=False->st.get x=σ.get x) l.length ⟨0,rfl,by omega,by omega,by(simp only[go_sem, ↓reduceIte,Nat.reduceEqDiff,Nat.reduceAdd,Nat.reduceSub,Nat.reduceLeDiff,reduceCtorEq])<;>rfl,by(simp only[go_sem, ↓reduceIte,Nat.reduceEqDiff,Nat.reduceAdd,Nat.reduceSub,Nat.reduceLeDiff,reduceCtorEq,SJ]);congr 1;omega,ho,by(try dsimp only);omega,fun x _ _=>rfl⟩ ?_
 rintro m env_b st_b ⟨i,rfl,yg,lD,b2,b3,bg,bn,fW⟩ bkp
 have b0:=bkp 0 (by kernel_rfl)
 simp only[go_sem, ↓reduceIte,Nat.reduceEqDiff,Nat.reduceAdd,Nat.reduceSub,Nat.reduceLeDiff,reduceCtorEq]at b0
 clear bkp
 have tl:=gh (lV l i) l.length
 have pP:=dw (i:=o) (n:=st_b.next) (by omega)
 by_cases hi:(i:Int)<(l.length:Int)-1-i
 ·have ft:i<l.length:=by omega
  obtain⟨j,hj⟩:∃j,j=l.length-1-i:=⟨_,rfl⟩
  have iO:j<l.length:=by omega
  have K9:(l.length:Int)-1-i=(j:Int):=by omega
  rw[K9]at b3 hi
  have g1:=fo (f:=lV l i) ft
  have g2:=fo (f:=lV l i) iO
  have e1:lV l i i=l.getD i 0:=by unfold lV;rw[if_neg (by omega)]
  have e2:lV l i j=l.getD j 0:=by unfold lV;rw[if_neg (by omega)]
  have MJ:(dC (lV l i) l.length).set i (eN (l.getD j 0))=dC (fun x=>if x=i then l.getD j 0 else lV l i x) l.length:=pG ft (if_pos rfl) fun x _ hx=>if_neg hx
  have IL:(dC (fun x=>if x=i then l.getD j 0 else lV l i x) l.length).set j (eN (l.getD i 0))=dC (lV l (i+1)) l.length:=pG iO (by unfold lV;rw[if_pos (by omega)];congr 1;omega) fun x hx PN=>by
   by_cases CH:x=i
   ·rw[if_pos CH];unfold lV;rw[if_pos (by omega)];congr 1;omega
   ·rw[if_neg CH];unfold lV
    by_cases hc:x<i∨l.length-i<=x
    ·rw[if_pos hc,if_pos (by omega)]
    ·rw[if_neg hc,if_neg (by omega)]
  have SR:=gh (fun x=>if x=i then l.getD j 0 else lV l i x) l.length
  have g3:=fo (f:=fun x=>if x=i then l.getD j 0 else lV l i x) iO
  rw[e1]at g1
  rw[e2]at g2
  rw[if_neg (by omega),e2]at g3
  rw[eN]at g1 g2 g3 MJ IL
  have hii:(i:Int)<(l.length:Int):=by omega
  have mK:(j:Int)<(l.length:Int):=by omega
  have nU:IntKind.i64.wrap ((i:Int)+1)=((i+1:Nat):Int):=az (by omega)
  have pQ:IntKind.i64.wrap ((j:Int)-1)=(l.length:Int)-1-((i+1:Nat):Int):=by rw[bt (by omega)];omega
  (try((repeat(revert hN;revert N;apply Pn.out));refine wk (tw @b0 (tw @b2 (tw @b3 (tw @bg (tw @hi (tw @hii (tw @mK (tw @g1 (tw @g2 (tw @g3 (tw @MJ (tw @IL (tw @tl (tw @SR (tw @pP (tw @nU @pQ)))))))))))))))) ?_;(repeat(refine Pn.mk ?_;intro N hN))))
  refine⟨_,?_,i+1,rfl,by omega,by omega,sd @nU,sd @pQ,sd @IL,by(try dsimp only);omega,fun x hx Hq=>?_⟩
  ·omega
  ·have:=fW x hx Hq
   simp only[go_sem, ↓reduceIte,Nat.reduceEqDiff,Nat.reduceAdd,Nat.reduceSub,Nat.reduceLeDiff,reduceCtorEq,Hq,this]
 ·rw[JD l (by omega) lD]at bg
  (try((repeat(revert hN;revert N;apply Pn.out));refine wk (tw @b0 (tw @b2 (tw @b3 (tw @bg @hi)))) ?_;(repeat(refine Pn.mk ?_;intro N hN))))
  exact fw (.inr rfl) (vs:=[]) (by simp only[fq,go_sem, ↓reduceIte,Nat.reduceEqDiff,Nat.reduceAdd,Nat.reduceSub,Nat.reduceLeDiff,reduceCtorEq]) ⟨bg,by(try dsimp only);omega,fW⟩
end Go.Proofs.YtgoelphibofcmaaGreat.V

namespace Go.Proofs.YtgoelphibofcmaaGreat.V
open Go.RowKit
attribute [local irreducible] dI wpOps gD Call
attribute [local go_sem] aM fM eP gp gm cN upd cD K.av cR AV.cells AV.cell rowOf rowsOf part ld rowAt bz cu dG ef ik bQ dh eA gj e9 dq ek dd dc dU dV bW bf cW bV cY cX ei eo ej cV ck de eh bU aT da cG ij bx cQ b4 aY dn bc dH AV.undef bF bI eb ee dP dM cJ ez eE cF er ep cZ db List.getD_cons_zero List.getD_cons_succ List.getD_nil List.all_cons List.all_nil Bool.and_true Bool.true_and Bool.and_self Bool.not_true Bool.not_false Option.map_some Option.map_none Option.bind_some Option.bind_none List.length_cons List.length_nil List.take_succ_cons List.take_zero List.take_nil List.drop_succ_cons List.drop_zero List.drop_nil List.head?_cons List.map_cons List.map_nil List.getElem?_cons_zero List.getElem?_cons_succ List.cons_append List.nil_append List.append_nil List.length_map List.set_cons_zero List.set_cons_succ Nat.reduceMul eq_self Int.toNat_natCast Int.natCast_nonneg and_self true_and and_true decide_true decide_false Bool.false_eq_true Nat.zero_add Nat.add_zero List.contains_cons List.contains_nil Bool.or_false Bool.false_or beq_self_eq_true Nat.reduceBEq ne_eq not_true_eq_false not_false_eq_true Id.mk.injEq false_and and_false Nat.reduceLT Int.reduceLE Int.reduceLT Int.reduceToNat Int.reduceNeg Int.reduceAdd Nat.le_refl List.length_append beq_true beq_false Bool.not_eq_eq_eq_not or_false false_or dO ai aj aH bp bE cz aX bl aW bj cU bH
theorem RB (cnt:Nat) (xw:1<=cnt) (hn:cnt<=1048576) (c f:Nat->Nat->Int) (x y:Nat) (hx:x<cnt) (hy:y<cnt):
  l8 Tryz.prog 266 [.di (ly cnt c f),.int .i64 x,.int .i64 y] fun r=>(r=.cq/\∃S:Nat->Bool,S x=true/\S y=false/\∀u v,u<cnt->v<cnt->S u=true->S v=false->¬f u v<c u v)∨∃p:List Nat,r=.sl (p.map eN)/\P0 cnt c f x y p:=by
 refine l8.body eB rfl fun hl n0=>?_
 clear hl
 have lM:=wY c cnt
 have jJ:(0:Int)<=(cnt:Int):=by omega
 have CH:(x:Int)<(cnt:Int):=by omega
 have SL:(y:Int)<(cnt:Int):=by omega
 (try((repeat(revert hN;revert N;apply Pn.out));refine wk (tw @ly.eq_1 @lM) ?_;(repeat(refine Pn.mk ?_;intro N hN))))
 refine .inr (aJ _ _ _ _ _ (fun r σ1 hq=>?_) (JB cnt xw hn (-1) ⟨266002000,n0+1+1⟩ _ (sd @Nat.zero_add) (by(try dsimp only);omega)))
 obtain⟨o,rfl,ho,Lj,Lk,jB⟩:=hq
 (try dsimp only at ho Lj Lk jB)
 refine hN _ _ ?_
 clear hN N
 have pP:=dw Lk
 have pZ:(cnt:Int)<=1048576:=by omega
 have Qx:qm<qm+cnt:=by omega
 have gJ:List.replicate cnt [AV.int .i64 (-1)]=dS (fun _=>-1) cnt:=by
  refine List.ext_getElem? fun i=>?_
  by_cases h:i<cnt
  ·rw[dK h,List.getElem?_replicate,if_pos h];rfl
  ·rw[List.getElem?_eq_none (by simp;omega),List.getElem?_eq_none (by rw[dB];omega)]
 rw[gJ]at ho
 have Bw:(dS (fun _=>-1) cnt).set x (bq (x:Int))=dS (fun v=>if v=x then(x:Int)else -1) cnt:=k6 hx (if_pos rfl) fun v _ hv=>if_neg hv
 have hg0:=dK (f:=fun _=>-1) hx
 have tl0:=dB (fun _=>-1) cnt
 rw[bq]at Bw hg0
 (try((repeat(revert hN;revert N;apply Pn.out));refine wk (tw @ly.eq_1 (tw @lM (tw @jJ (tw @pZ @pP)))) ?_;(repeat(refine Pn.mk ?_;intro N hN))))
 refine Kc ?_
 simp only[go_sem, ↓reduceIte,Nat.reduceEqDiff,Nat.reduceAdd,Nat.reduceSub,Nat.reduceLeDiff,reduceCtorEq,Qx]
 refine hN _ _ ?_
 clear hN N
 (try((repeat(revert hN;revert N;apply Pn.out));refine wk (tw @ho (tw @pP (tw @Bw (tw @hg0 (tw @tl0 @CH))))) ?_;(repeat(refine Pn.mk ?_;intro N hN))))
 obtain⟨C,hC⟩:∃C:Id,C=⟨266003001,σ1.next+1⟩:=⟨_,rfl⟩
 have QR:=cr (a:=o) (b:=C) (by rw[hC];(try dsimp only);omega)
 have hCv:C.bP=σ1.next+1:=by rw[hC]
 refine aV (fun m env st=>∃(par:Nat->Int) (Q:List Nat) (i:Nat),m=cnt-i/\Bq cnt c f x par Q i/\st.get o=some ⟨true,1,dS par cnt⟩/\st.get C=some ⟨true,qm+cnt,(Q.drop i).map eN⟩/\σ1.next+1<st.next) cnt ⟨_,[x],0,rfl,Bq.start hx,sd @pP,by rw[hC];simp only[go_sem, ↓reduceIte,Nat.reduceEqDiff,Nat.reduceAdd,Nat.reduceSub,Nat.reduceLeDiff,reduceCtorEq,pP];rfl,by(try dsimp only);omega⟩ ?_
 rintro m env_b st_b ⟨par,Q,i,rfl,hB,bgo,bgC,bn⟩ bkp
 have b0:=bkp 0 (by kernel_rfl)
 have b1:=bkp 1 (by kernel_rfl)
 have b2:=bkp 2 (by kernel_rfl)
 have b7:=bkp 7 (by kernel_rfl)
 have b8:=bkp 8 (by kernel_rfl)
 have b9:=bkp 9 (by kernel_rfl)
 rw[<-hC]at b9
 simp only[go_sem, ↓reduceIte,Nat.reduceEqDiff,Nat.reduceAdd,Nat.reduceSub,Nat.reduceLeDiff,reduceCtorEq]at b0 b1 b2 b7 b8 b9
 clear bkp
 have hQn:=hB.len
 have lD:=hB.ile
 have Sk:((Q.drop i).map eN).length=Q.length-i:=by simp
 by_cases hi:i<Q.length
 ·have kj:(0:Int)<((Q.length-i:Nat):Int):=by omega
  have sj:Q.drop i=Q[i]::Q.drop (i+1):=List.drop_eq_getElem_cons hi
  obtain⟨u,hu⟩:∃u,u=Q[i]:=⟨_,rfl⟩
  have hun:u<cnt:=by rw[hu];exact hB.lt _ (List.getElem_mem hi)
  rw[<-hu]at sj
  (try((repeat(revert hN;revert N;apply Pn.out));refine wk (tw @b0 (tw @b1 (tw @b2 (tw @b7 (tw @b8 (tw @b9 (tw @bgC (tw @Sk @kj)))))))) ?_;(repeat(refine Pn.mk ?_;intro N hN))))
  refine Kc ?_
  rw[sj,List.map_cons,show eN u=[.int .i64 (u:Int)]from rfl]at bgC
  simp only[go_sem, ↓reduceIte,Nat.reduceEqDiff,Nat.reduceAdd,Nat.reduceSub,Nat.reduceLeDiff,reduceCtorEq,b9,bgC]
  refine hN _ _ ?_
  clear hN N
  (try((repeat(revert hN;revert N;apply Pn.out));refine wk @b7 ?_;(repeat(refine Pn.mk ?_;intro N hN))))
  refine aV (fun m env st=>∃(v:Nat) (par':Nat->Int) (Q':List Nat),m=cnt-v/\v<=cnt/\env 36=.int .i64 (v:Int)/\Bq cnt c f x par' Q' i/\(∃h:i<Q'.length,Q'[i]=u)/\st.get o=some ⟨true,1,dS par' cnt⟩/\st.get C=some ⟨true,qm+cnt,(Q'.drop (i+1)).map eN⟩/\σ1.next+1<st.next/\∀w,w<v->f u w<c u w->0<=par' w) cnt ⟨0,par,Q,rfl,Nat.zero_le _,by(simp only[go_sem, ↓reduceIte,Nat.reduceEqDiff,Nat.reduceAdd,Nat.reduceSub,Nat.reduceLeDiff,reduceCtorEq])<;>rfl,hB,⟨hi,hu.symm⟩,sd (tw @QR @bgo),sd @QR,by(try dsimp only);omega,fun w hw=>absurd hw (Nat.not_lt_zero w)⟩ ?_
  rintro m env_c st_c ⟨v,par',Q',rfl,hvn,c36,dz,⟨qO,E9⟩,xY,cgC,cn,dF⟩ ckp
  have c0:=ckp 0 (by kernel_rfl)
  have c1:=ckp 1 (by kernel_rfl)
  have c2:=ckp 2 (by kernel_rfl)
  have c7:=ckp 7 (by kernel_rfl)
  have c8:=ckp 8 (by kernel_rfl)
  have c9:=ckp 9 (by kernel_rfl)
  have jA:=ckp 10 (by kernel_rfl)
  have Nn:=ckp 35 (by kernel_rfl)
  simp only[go_sem, ↓reduceIte,Nat.reduceEqDiff,Nat.reduceAdd,Nat.reduceSub,Nat.reduceLeDiff,reduceCtorEq,b0,b1,b2,b7,b8,b9]at c0 c1 c2 c7 c8 c9 jA Nn
  clear ckp
  have tl:=dB par' cnt
  by_cases hv:(v:Int)<(cnt:Int)
  ·have Dt:v<cnt:=by omega
   have NY:=dK (f:=par') Dt
   have jB:=Nz cnt c f u v hun Dt
   have hw:IntKind.i64.wrap ((v:Int)+1)=((v+1:Nat):Int):=az (by omega)
   rw[bq]at NY
   rw[ly]at jB
   by_cases j7:par' v<0
   ·by_cases hr:f u v<c u v
    ·rw[decide_eq_true hr]at jB
     have eC:(dS par' cnt).set v (bq (u:Int))=dS (fun w=>if w=v then(u:Int)else par' w) cnt:=k6 Dt (if_pos rfl) fun w _ hw=>if_neg hw
     rw[bq]at eC
     have pN:=dz.visit qO Dt j7 (by rw[E9];exact hr)
     rw[E9]at pN
     have hQ2:=pN.len
     rw[List.length_append]at hQ2
     simp only[List.length_singleton]at hQ2
     have fS:qm+(Q'.drop (i+1)).length<qm+cnt:=by rw[List.length_drop];omega
     (repeat(first|((repeat(revert hN;revert N;apply Pn.out));refine wk (tw @ly.eq_1 (tw @c0 (tw @c7 (tw @c8 (tw @c9 (tw @jA (tw @c36 (tw @Nn (tw @hv (tw @xY (tw @NY (tw @tl (tw @j7 @eC))))))))))))) ?_;(repeat(refine Pn.mk ?_;intro N hN)))|((try apply Or.inl);refine⟨_,aq.x (jB) (sd (tw @ly.eq_1 (tw @c0 (tw @c7 (tw @c8 (tw @c9 (tw @jA (tw @c36 (tw @Nn (tw @hv (tw @xY (tw @NY (tw @tl (tw @j7 @eC)))))))))))))),?_⟩;refine hN _ _ ?_;clear hN N)))
     refine Kc ?_
     have hq:(Q'.drop (i+1)).map eN++[[.int .i64 (v:Int)]]=((Q'++[v]).drop (i+1)).map eN:=by rw[List.drop_append_of_le_length (by omega),List.map_append];rfl
     simp only[go_sem, ↓reduceIte,Nat.reduceEqDiff,Nat.reduceAdd,Nat.reduceSub,Nat.reduceLeDiff,reduceCtorEq,c9,cgC,fS,QR,hq]
     refine hN _ _ ?_
     clear hN N
     (try((repeat(revert hN;revert N;apply Pn.out));refine wk (tw @c36 @hw) ?_;(repeat(refine Pn.mk ?_;intro N hN))))
     refine⟨_,?_,v+1,_,_,rfl,Dt,sd @hw,pN,⟨by rw[List.length_append];omega,by rw[List.getElem_append_left qO];exact E9⟩,sd @QR,sd @QR,by(try dsimp only);omega,fun w hw IK=>?_⟩
     ·omega
     ·by_cases Fa:w=v
      ·rw[if_pos Fa];omega
      ·rw[if_neg Fa];exact dF w (by omega) IK
    ·rw[decide_eq_false hr]at jB
     (repeat(first|((repeat(revert hN;revert N;apply Pn.out));refine wk (tw @ly.eq_1 (tw @c0 (tw @c7 (tw @c8 (tw @c9 (tw @jA (tw @c36 (tw @Nn (tw @hv (tw @xY (tw @NY (tw @tl (tw @j7 @hw))))))))))))) ?_;(repeat(refine Pn.mk ?_;intro N hN)))|((try apply Or.inl);refine⟨_,aq.x (jB) (sd (tw @ly.eq_1 (tw @c0 (tw @c7 (tw @c8 (tw @c9 (tw @jA (tw @c36 (tw @Nn (tw @hv (tw @xY (tw @NY (tw @tl (tw @j7 @hw)))))))))))))),?_⟩;refine hN _ _ ?_;clear hN N)))
     refine⟨_,?_,v+1,par',Q',rfl,Dt,sd @hw,dz,⟨qO,E9⟩,sd @xY,sd @cgC,by(try dsimp only);omega,fun w hw IK=>?_⟩
     ·omega
     ·by_cases Fa:w=v
      ·subst Fa;exact absurd IK hr
      ·exact dF w (by omega) IK
   ·(try((repeat(revert hN;revert N;apply Pn.out));refine wk (tw @ly.eq_1 (tw @c0 (tw @c7 (tw @c8 (tw @c9 (tw @jA (tw @c36 (tw @Nn (tw @hv (tw @xY (tw @NY (tw @tl (tw @j7 @hw))))))))))))) ?_;(repeat(refine Pn.mk ?_;intro N hN))))
    refine⟨_,?_,v+1,par',Q',rfl,Dt,sd @hw,dz,⟨qO,E9⟩,sd @xY,sd @cgC,by(try dsimp only);omega,fun w hw IK=>?_⟩
    ·omega
    ·by_cases Fa:w=v
     ·subst Fa;omega
     ·exact dF w (by omega) IK
  ·have hvc:v=cnt:=by omega
   subst hvc
   (try((repeat(revert hN;revert N;apply Pn.out));refine wk (tw @c36 (tw @Nn @hv)) ?_;(repeat(refine Pn.mk ?_;intro N hN))))
   refine⟨_,?_,par',Q',i+1,rfl,dz.next qO fun w hw hr=>dF w hw (by rw[<-E9];exact hr),sd @xY,sd @cgC,by(try dsimp only);omega⟩
   omega
 ·have hiQ:i=Q.length:=by omega
  subst hiQ
  have kj:¬(0:Int)<((Q.length-Q.length:Nat):Int):=by omega
  have T8:=dK (f:=par) hy
  have tl:=dB par cnt
  rw[bq]at T8
  by_cases j7:par y<0
  ·(try((repeat(revert hN;revert N;apply Pn.out));refine wk (tw @b0 (tw @b1 (tw @b2 (tw @b7 (tw @b8 (tw @b9 (tw @bgC (tw @Sk (tw @kj (tw @bgo (tw @T8 (tw @tl (tw @SL @j7))))))))))))) ?_;(repeat(refine Pn.mk ?_;intro N hN))))
   exact⟨[.cq],sd @Nat.zero_add,.cq,kJ _ _,.inl ⟨rfl,hB.cut hy j7⟩⟩
  ·(try((repeat(revert hN;revert N;apply Pn.out));refine wk (tw @b0 (tw @b1 (tw @b2 (tw @b7 (tw @b8 (tw @b9 (tw @bgC (tw @Sk (tw @kj (tw @bgo (tw @T8 (tw @tl (tw @SL @j7))))))))))))) ?_;(repeat(refine Pn.mk ?_;intro N hN))))
   refine aV (fun m env st=>∃(k:Nat) (out:List Nat) (p:Id),m=Q.idxOf k/\env 13=.int .i64 (k:Int)/\env 12=.own p 0 out.length/\st.get p=some ⟨true,1,out.map eN⟩/\p.bP<st.next/\st_b.next<=p.bP/\k∈Q/\uN c f Q y k out/\st.get o=some ⟨true,1,dS par cnt⟩) (Q.idxOf y) ⟨y,[y],⟨266017001,st_b.next+1+1⟩,rfl,by(simp only[go_sem, ↓reduceIte,Nat.reduceEqDiff,Nat.reduceAdd,Nat.reduceSub,Nat.reduceLeDiff,reduceCtorEq]),by(simp only[go_sem, ↓reduceIte,Nat.reduceEqDiff,Nat.reduceAdd,Nat.reduceSub,Nat.reduceLeDiff,reduceCtorEq])<;>rfl,by(simp only[go_sem, ↓reduceIte,Nat.reduceEqDiff,Nat.reduceAdd,Nat.reduceSub,Nat.reduceLeDiff,reduceCtorEq])<;>rfl,by(try dsimp only);omega,by(try dsimp only);omega,(hB.iff y hy).1 (by omega),uN.start ((hB.iff y hy).1 (by omega)),by(have UI:=dw (i:=o) (n:=st_b.next) (by omega));simp only[go_sem, ↓reduceIte,Nat.reduceEqDiff,Nat.reduceAdd,Nat.reduceSub,Nat.reduceLeDiff,reduceCtorEq,UI,bgo]⟩ ?_
   rintro m env_d st_d ⟨k,out,p,rfl,d13,d12,dgp,dpn,dpo,hkQ,uB,dgo⟩ dkp
   have d1:=dkp 1 (by kernel_rfl)
   have d8:=dkp 8 (by kernel_rfl)
   simp only[go_sem, ↓reduceIte,Nat.reduceEqDiff,Nat.reduceAdd,Nat.reduceSub,Nat.reduceLeDiff,reduceCtorEq,b1,b8]at d1 d8
   clear dkp
   have AF:=dw dpn
   have Bz:=dw (i:=o) (n:=st_d.next) (by omega)
   have ec:=cr (a:=o) (b:=p) (by omega)
   have Lg:=uB.len hB.lt
   have fy:=hB.lt k hkQ
   have lE:(out.map eN).length=out.length:=by simp
   by_cases Su:k=x
   ·have hd:decide ((k:Int)=(x:Int))=true:=decide_eq_true (by rw[Su])
    have Uw:0<out.length:=by
     obtain⟨rest,h1,_⟩:=uB
     rw[<-List.length_reverse,h1];simp
    (try((repeat(revert hN;revert N;apply Pn.out));refine wk (tw @d1 (tw @d8 (tw @d12 (tw @d13 (tw @hd @Bool.not_true))))) ?_;(repeat(refine Pn.mk ?_;intro N hN))))
    refine .inr (aJ _ _ _ _ _ (fun r σ2 hq=>?_) (GO out Uw (by omega) p _ dgp (by(try dsimp only);omega)))
    obtain⟨QF,mV,Iw⟩:=hq
    refine hN _ _ ?_
    clear hN N
    (try((repeat(revert hN;revert N;apply Pn.out));refine wk @d12 ?_;(repeat(refine Pn.mk ?_;intro N hN))))
    refine⟨[.own p 0 out.length],sd @d12,.sl (out.reverse.map eN),?_,.inr ⟨out.reverse,rfl,by subst Su;exact uB.way hB.lt⟩⟩
    exact fD (sz:=1) QF (by simp) fun a=>NA _ 4 a
   ·have hd:decide ((k:Int)=(x:Int))=false:=decide_eq_false fun h=>Su (by omega)
    obtain⟨u,huQ,hpu,zE,hr⟩:=hB.up k hkQ Su
    have eQ:=dK (f:=par) fy
    rw[bq,hpu]at eQ
    have hki:(k:Int)<(cnt:Int):=by omega
    have e1:out.length+1<=16777216:=by omega
    (try((repeat(revert hN;revert N;apply Pn.out));refine wk (tw @d1 (tw @d8 (tw @d12 (tw @d13 (tw @hd (tw @Bool.not_false (tw @dgo (tw @dgp (tw @eQ (tw @tl (tw @hki (tw @AF (tw @Bz (tw @ec (tw @lE @e1))))))))))))))) ?_;(repeat(refine Pn.mk ?_;intro N hN))))
    refine⟨_,zE,u,out++[u],⟨266021003,st_d.next+1+1⟩,rfl,sd @Nat.zero_add,by rw[List.length_append];simp only[go_sem, ↓reduceIte,Nat.reduceEqDiff,Nat.reduceAdd,Nat.reduceSub,Nat.reduceLeDiff,reduceCtorEq,List.length_cons,List.length_nil],by rw[List.map_append,List.map_cons,List.map_nil];simp only[go_sem, ↓reduceIte,Nat.reduceEqDiff,Nat.reduceAdd,Nat.reduceSub,Nat.reduceLeDiff,reduceCtorEq,eN],by(try dsimp only);omega,by(try dsimp only);omega,huQ,uB.step huQ zE hr,sd (tw @Bz (tw @ec @dgo))⟩
end Go.Proofs.YtgoelphibofcmaaGreat.V

namespace Go.Proofs.YtgoelphibofcmaaGreat.V
open Go.RowKit
attribute [local irreducible] dI wpOps gD Call
attribute [local go_sem] aM fM eP gp gm cN upd cD K.av cR AV.cells AV.cell rowOf rowsOf part ld rowAt bz cu dG ef ik bQ dh eA gj e9 dq ek dd dc dU dV bW bf cW bV cY cX ei eo ej cV ck de eh bU aT da cG ij bx cQ b4 aY dn bc dH AV.undef bF bI eb ee dP dM cJ ez eE cF er ep cZ db List.getD_cons_zero List.getD_cons_succ List.getD_nil List.all_cons List.all_nil Bool.and_true Bool.true_and Bool.and_self Bool.not_true Bool.not_false Option.map_some Option.map_none Option.bind_some Option.bind_none List.length_cons List.length_nil List.take_succ_cons List.take_zero List.take_nil List.drop_succ_cons List.drop_zero List.drop_nil List.head?_cons List.map_cons List.map_nil List.getElem?_cons_zero List.getElem?_cons_succ List.cons_append List.nil_append List.append_nil List.length_map List.set_cons_zero List.set_cons_succ Nat.reduceMul eq_self Int.toNat_natCast Int.natCast_nonneg and_self true_and and_true decide_true decide_false Bool.false_eq_true Nat.zero_add Nat.add_zero List.contains_cons List.contains_nil Bool.or_false Bool.false_or beq_self_eq_true Nat.reduceBEq ne_eq not_true_eq_false not_false_eq_true Id.mk.injEq false_and and_false Nat.reduceLT Int.reduceLE Int.reduceLT Int.reduceToNat Int.reduceNeg Int.reduceAdd Nat.le_refl List.length_append beq_true beq_false Bool.not_eq_eq_eq_not or_false false_or dO ai aj aH bp bE cz aX bl aW bj cU bH
theorem AP (b:Nat):∀(l:List Nat) (a:Nat) (f:Nat->Nat->Int),mc f ((a::l)++[b])=ko (mc f (a::l)) ((a::l).getLast (by simp)) b
 |[],a,f=>rfl
 |c::l,a,f=>by
  rw[List.cons_append,List.cons_append,mc,<-List.cons_append,AP b l c (ko f a c),mc,List.getLast_cons_cons]
theorem FJ {p:List Nat} {f:Nat->Nat->Int} {i:Nat} (h1:1<=i) (hi:i<p.length):mc f (p.take (i+1))=ko (mc f (p.take i)) (p[i-1]'(by omega)) p[i]:=by
 rw[List.take_succ_eq_append_getElem hi]
 have gW:p.take i≠[]:=by
  intro h
  have:(p.take i).length=0:=by rw[h];rfl
  rw[List.length_take]at this;omega
 obtain⟨a,l,Sd⟩:∃a l,p.take i=a::l:=by
  cases h:p.take i with
  |nil=>exact absurd h gW
  |cons a l=>exact⟨a,l,rfl⟩
 have vV:(p.take i).getLast gW=p[i-1]'(by omega):=by
  rw[List.getLast_eq_getElem,List.getElem_take]
  congr 1
  rw[List.length_take];omega
 simp only[Sd]at vV ⊢
 rw[AP,vV]
theorem GJ (f:Nat->Nat->Int) (a b u v:Nat):ko f a b u v<=f u v+1/\f u v-1<=ko f a b u v:=by
 unfold ko bump
 split<;>split<;>constructor<;>omega
theorem me:∀(p:List Nat) (f:Nat->Nat->Int) (u v:Nat),mc f p u v<=f u v+p.length/\f u v-p.length<=mc f p u v
 |[],f,u,v=>by simp[mc]
 |[_],f,u,v=>by simp[mc];omega
 |a::b::r,f,u,v=>by
  rw[mc]
  have h1:=me (b::r) (ko f a b) u v
  have h2:=GJ f a b u v
  simp only[List.length_cons]at h1 ⊢
  omega
theorem nF.push {g g':Rows} {X o1 o2:Id} {R1 R2:Nat->Id} {n nb:Nat} {c f:Nat->Nat->Int} (I:FF X o1 o2 R1 R2 n nb) (h:nF g X o1 o2 R1 R2 n c f) {a b:Nat} (ha:a<n) (hb:b<n) (qv:a≠b) (hA:g' (R2 a)=some ⟨true,1,dS (bump f a b 1 a) n⟩) (hB:g' (R2 b)=some ⟨true,1,dS (bump (bump f a b 1) b a (-1) b) n⟩) (hf:∀i:Id,i.bP<nb->(i=R2 a)=False->(i=R2 b)=False->g' i=g i):nF g' X o1 o2 R1 R2 n c (ko f a b):=by
 have ne:∀{i:Id} {s:Nat},i.site=s->(s==245005006)=false->∀a,a<n->(i=R2 a)=False:=fun {i s} hi hs a ha=>by
  simp only[eq_iff_iff,iff_false]
  rintro rfl
  rw[I.MV a ha]at hi
  subst hi
  simp at hs
 refine⟨(hf _ I.vx (ne I.sx (by decide) _ ha) (ne I.sx (by decide) _ hb)).trans h.x,(hf _ I.v1 (ne I.s1 (by decide) _ ha) (ne I.s1 (by decide) _ hb)).trans h.t1,(hf _ I.v2 (ne I.s2 (by decide) _ ha) (ne I.s2 (by decide) _ hb)).trans h.t2,fun i hi=>(hf _ (I.SS i hi) (ne (I.SQ i hi) (by decide) _ ha) (ne (I.SQ i hi) (by decide) _ hb)).trans (h.r1 i hi),fun i hi=>?_⟩
 by_cases Kt:i=b
 ·subst Kt;exact hB
 ·by_cases N0:i=a
  ·subst N0
   rw[hA,ko,j0 Kt]
  ·rw[ko,j0 Kt,j0 N0,hf _ (I.PV i hi) (by simp only[eq_iff_iff,iff_false];exact fun he=>N0 (I.i2 i _ hi ha he)) (by simp only[eq_iff_iff,iff_false];exact fun he=>Kt (I.i2 i _ hi hb he))]
   exact h.r2 i hi
theorem ON (cnt:Nat) (xw:1<=cnt) (hn:cnt<=1048576) (c:Nat->Nat->Int) (hc:∀u v,u<cnt->v<cnt->0<=c u v/\c u v<=16777216) (x y:Nat) (hx:x<cnt) (hy:y<cnt) (Q8:x≠y) (t:Int) (ht:t<=1099511627776)
  (X o1 o2:Id) (R1 R2:Nat->Id) (nb:Nat) (I:FF X o1 o2 R1 R2 cnt nb) (σ:ar) (hM:nF σ.get X o1 o2 R1 R2 cnt c (fun _ _=>0)) (Sy:nb<=σ.next):
  Call Tryz.prog 246 [.ptr X 0 0,.int .i64 x,.int .i64 y,.int .i64 t] σ fun r σ'=>∃val:Int,r=.int .i64 val/\(val<t↔∃S:Nat->Bool,S x=true/\S y=false/\mh cnt S c<t)/\σ.next<=σ'.next:=by
 refine eT eB rfl fun hl=>?_
 clear hl
 have hxS:(fun v=>decide (v=x)) x=true:=by simp
 have hyS:(fun v=>decide (v=x)) y=false:=by simp;exact fun h=>Q8 h.symm
 obtain⟨top,UE⟩:∃top,top=mh cnt (fun v=>decide (v=x)) c:=⟨_,rfl⟩
 (try((repeat(revert hN;revert N;apply Pn.out));refine wk @Nat.zero_add ?_;(repeat(refine Pn.mk ?_;intro N hN))))
 refine aV (fun m env st=>∃(k:Nat) (f:Nat->Nat->Int),m=(top-k).toNat/\env 9=.int .i64 (k:Int)/\lu cnt c f x y k/\nF st.get X o1 o2 R1 R2 cnt c f/\σ.next<=st.next/\(0<k->(k:Int)<=t)/\∀u v,-((k:Int)*(cnt:Int))<=f u v) (top-0).toNat ⟨0,fun _ _=>0,rfl,by(simp only[go_sem, ↓reduceIte,Nat.reduceEqDiff,Nat.reduceAdd,Nat.reduceSub,Nat.reduceLeDiff,reduceCtorEq])<;>rfl,lu.zero fun u v hu hv=>(hc u v hu hv).1,hM,by(try dsimp only);omega,fun h=>absurd h (Nat.lt_irrefl 0),fun u v=>by simp⟩ ?_
 rintro m env_b st_b ⟨k,f,rfl,b9,hF,bM,bn,bk,blo⟩ bkp
 have b0:=bkp 0 (by kernel_rfl)
 have b1:=bkp 1 (by kernel_rfl)
 have b2:=bkp 2 (by kernel_rfl)
 have b3:=bkp 3 (by kernel_rfl)
 simp only[go_sem, ↓reduceIte,Nat.reduceEqDiff,Nat.reduceAdd,Nat.reduceSub,Nat.reduceLeDiff,reduceCtorEq]at b0 b1 b2 b3
 clear bkp
 have hz:cP (dO st_b.get) 6 [.ptr X 0 0,.int .i64 (x:Int),.int .i64 (y:Int)]=some [.di (ly cnt c f),.int .i64 x,.int .i64 y]:=by simp only[ai,aj,bM.fz,aH,Option.map_some]
 (try((repeat(revert hN;revert N;apply Pn.out));refine wk (tw @b0 (tw @b1 (tw @b2 (tw @b3 @b9)))) ?_;(repeat(refine Pn.mk ?_;intro N hN))))
 refine .inr (aJ _ _ _ _ _ (fun r σ1 hq=>?_) ((RB cnt xw hn c f x y hx hy).x mixed hz))
 obtain⟨Oe,rfl⟩:=hq
 refine hN _ _ ?_
 clear hN N
 rcases Oe with⟨rfl,S,NS,NT,Sa⟩|⟨p,rfl,hW⟩
 ·(try((repeat(revert hN;revert N;apply Pn.out));refine wk (tw @b0 (tw @b1 (tw @b2 (tw @b3 (tw @b9 (tw @Bool.not_true @Bool.not_false)))))) ?_;(repeat(refine Pn.mk ?_;intro N hN))))
  refine fw (.inl rfl) (vs:=[.int .i64 (k:Int)]) (sd @Nat.zero_add) ⟨(k:Int),rfl,⟨fun h=>⟨S,NS,NT,by rw[<-hF.full NS NT Sa];exact h⟩,fun⟨S',h1,h2,h3⟩=>by have:=hF.bound h1 h2;omega⟩,by(try dsimp only);omega⟩
 ·obtain⟨⟨rs,rfl,vV⟩,mi,fS,hplt⟩:=hW
  by_cases Lc:t<=(k:Int)
  ·(try((repeat(revert hN;revert N;apply Pn.out));refine wk (tw @b0 (tw @b1 (tw @b2 (tw @b3 (tw @b9 (tw @Lc (tw @Bool.not_true @Bool.not_false))))))) ?_;(repeat(refine Pn.mk ?_;intro N hN))))
   refine fw (.inl rfl) (vs:=[.int .i64 (k:Int)]) (sd @Nat.zero_add) ⟨(k:Int),rfl,⟨fun h=>by omega,fun⟨S',h1,h2,h3⟩=>by have:=hF.bound h1 h2;omega⟩,by(try dsimp only);omega⟩
  ·(try((repeat(revert hN;revert N;apply Pn.out));refine wk (tw @b0 (tw @b1 (tw @b2 (tw @b3 (tw @b9 (tw @Lc (tw @Bool.not_true @Bool.not_false))))))) ?_;(repeat(refine Pn.mk ?_;intro N hN))))
   have l7:=oP cnt _ mi hplt
   have hkc:(k:Int)*(cnt:Int)<=1099511627776*1048576:=Int.mul_le_mul (by omega) (by omega) (by omega) (by omega)
   have hfb:=hF.bound (S:=fun v=>decide (v=x)) hxS hyS
   have hnear:=me
   obtain⟨p,hp⟩:∃p,p=x::rs:=⟨_,rfl⟩
   have hmp:eN x::List.map eN rs=p.map eN:=by rw[hp];rfl
   rw[hmp]
   have N9:1<=p.length:=by rw[hp];simp
   have K0:=hF.aug vV mi fS hplt
   rw[<-hp]at K0 mi fS hplt l7
   have Ol:p.take 1=[x]:=by rw[hp];rfl
   clear hmp vV
   refine aV (fun m env st=>∃i:Nat,m=p.length-i/\1<=i/\i<=p.length/\env 11=.int .i64 (i:Int)/\nF st.get X o1 o2 R1 R2 cnt c (mc f (p.take i))/\st_b.next<=st.next) (p.length-1) ⟨1,rfl,Nat.le_refl _,N9,by(simp only[go_sem, ↓reduceIte,Nat.reduceEqDiff,Nat.reduceAdd,Nat.reduceSub,Nat.reduceLeDiff,reduceCtorEq])<;>rfl,by rw[Ol];exact bM,by(try dsimp only);omega⟩ ?_
   rintro m env_c st_c ⟨i,rfl,K7,lD,nK,cM,cn⟩ ckp
   have c0:=ckp 0 (by kernel_rfl)
   have c1:=ckp 1 (by kernel_rfl)
   have c2:=ckp 2 (by kernel_rfl)
   have c3:=ckp 3 (by kernel_rfl)
   have c9:=ckp 9 (by kernel_rfl)
   have jA:=ckp 10 (by kernel_rfl)
   simp only[go_sem, ↓reduceIte,Nat.reduceEqDiff,Nat.reduceAdd,Nat.reduceSub,Nat.reduceLeDiff,reduceCtorEq,b0,b1,b2,b3,b9]at c0 c1 c2 c3 c9 jA
   clear ckp
   have lE:(p.map eN).length=p.length:=by simp
   by_cases hi:(i:Int)<(p.length:Int)
   ·have ft:i<p.length:=by omega
    have xD:=FJ (f:=f) K7 ft
    obtain⟨a,ha⟩:∃a,a=p[i-1]'(by omega):=⟨_,rfl⟩
    obtain⟨b,hb⟩:∃b,b=p[i]:=⟨_,rfl⟩
    have EU:a<cnt:=by rw[ha];exact hplt _ (List.getElem_mem _)
    have EW:b<cnt:=by rw[hb];exact hplt _ (List.getElem_mem _)
    have qv:a≠b:=by
     rw[ha,hb]
     exact List.pairwise_iff_getElem.1 mi (i-1) i (by omega) ft (by omega)
    have QG:(p.map eN)[i-1]? =some [.int .i64 (a:Int)]:=by rw[List.getElem?_map,List.getElem?_eq_getElem (by omega),ha];rfl
    have QH:(p.map eN)[i]? =some [.int .i64 (b:Int)]:=by rw[List.getElem?_map,List.getElem?_eq_getElem ft,hb];rfl
    rw[<-ha,<-hb]at xD
    have Uj:=me (p.take i) f a b
    have Uk:=me (p.take i) f b a
    rw[List.length_take]at Uj Uk
    have hl1:=blo b a
    have Uc:=blo a b
    have Q2:=hF.le a b EU EW
    have hu2:=hF.le b a EW EU
    have hca:=hc a b EU EW
    have EX:=hc b a EW EU
    generalize mc f (p.take i)=fl at *
    have gA:=r6 (R:=R2) (n:=cnt) EU
    have gB:=r6 (R:=R2) (n:=cnt) EW
    have rA:=cM.r2 _ EU
    have rB:=cM.r2 _ EW
    have cA:=dK (f:=fl a) EW
    have cB:=dK (f:=fl b) EU
    have sA:=ou (f:=fl) (a:=a) (d:=1) EW
    have N7:bump fl a b 1 b=fl b:=j0 fun h=>qv h.symm
    have sB:=ou (f:=bump fl a b 1) (a:=b) (b:=a) (d:=-1) (n:=cnt) EU
    rw[N7]at sB
    have gX:=cM.x
    have g2:=cM.t2
    have gI:(a:Int)<(cnt:Int):=by omega
    have fP:(b:Int)<(cnt:Int):=by omega
    have SJ:IntKind.i64.wrap ((i:Int)-1)=((i-1:Nat):Int):=by rw[bt (by omega)];omega
    have yg:((i-1:Nat):Int)<(p.length:Int):=by omega
    have wA:IntKind.i64.wrap (fl a b+1)=fl a b+1:=bt (by omega)
    have wB:IntKind.i64.wrap (fl b a-1)=fl b a+-1:=by rw[bt (by omega)];omega
    have Q6:IntKind.i64.wrap ((i:Int)+1)=((i+1:Nat):Int):=az (by omega)
    have l2:=kc R2 cnt cnt
    have lA:=dB (fl a) cnt
    have lB:=dB (fl b) cnt
    have gW:(R2 a=R2 b)=False:=by simp only[eq_iff_iff,iff_false];exact fun h=>qv (I.i2 _ _ EU EW h)
    have IC:(R2 b=R2 a)=False:=by simp only[eq_iff_iff,iff_false];exact fun h=>qv (I.i2 _ _ EU EW h.symm)
    have xA:=Ah I.sx (I.MV a EU) (by decide)
    have xB:=Ah I.sx (I.MV b EW) (by decide)
    have yA:=Ah I.s2 (I.MV a EU) (by decide)
    have yB:=Ah I.s2 (I.MV b EW) (by decide)
    have qX:=dw (i:=X) (n:=st_c.next) (by have:=I.vx;omega)
    have q2:=dw (i:=o2) (n:=st_c.next) (by have:=I.v2;omega)
    have qA:=dw (i:=R2 a) (n:=st_c.next) (by have:=I.PV a EU;omega)
    have qB:=dw (i:=R2 b) (n:=st_c.next) (by have:=I.PV b EW;omega)
    rw[bq]at cA cB sA sB
    (try((repeat(revert hN;revert N;apply Pn.out));refine wk (tw @c0 (tw @c9 (tw @jA (tw @nK (tw @lE (tw @hi (tw @yg (tw @QG (tw @QH (tw @gA (tw @gB (tw @rA (tw @rB (tw @cA (tw @cB (tw @sA (tw @sB (tw @gX (tw @g2 (tw @gI (tw @fP (tw @SJ (tw @wA (tw @wB (tw @Q6 (tw @l2 (tw @lA (tw @lB (tw @gW (tw @IC (tw @xA (tw @xB (tw @yA (tw @yB (tw @qX (tw @q2 (tw @qA @qB))))))))))))))))))))))))))))))))))))) ?_;(repeat(refine Pn.mk ?_;intro N hN))))
    refine⟨_,?_,i+1,rfl,by omega,by omega,sd @Q6,?_,by(try dsimp only);omega⟩
    ·omega
    ·rw[xD]
     refine cM.push I EU EW qv ?_ ?_ fun j hj h1 h2=>?_
     ·simp only[go_sem, ↓reduceIte,Nat.reduceEqDiff,Nat.reduceAdd,Nat.reduceSub,Nat.reduceLeDiff,reduceCtorEq,gW]
     ·simp only[go_sem, ↓reduceIte,Nat.reduceEqDiff,Nat.reduceAdd,Nat.reduceSub,Nat.reduceLeDiff,reduceCtorEq,gW]
     ·simp only[go_sem, ↓reduceIte,Nat.reduceEqDiff,Nat.reduceAdd,Nat.reduceSub,Nat.reduceLeDiff,reduceCtorEq,h1,h2]
   ·have Hl:i=p.length:=by omega
    subst Hl
    rw[List.take_length]at cM
    have Oq:IntKind.i64.wrap ((k:Int)+1)=((k+1:Nat):Int):=az (by omega)
    have TY:=K0.bound (S:=fun v=>decide (v=x)) hxS hyS
    (try((repeat(revert hN;revert N;apply Pn.out));refine wk (tw @c0 (tw @c9 (tw @jA (tw @nK (tw @lE (tw @hi @Oq)))))) ?_;(repeat(refine Pn.mk ?_;intro N hN))))
    refine⟨_,?_,k+1,_,rfl,sd @Oq,by rw[Int.natCast_add];exact K0,cM,by(try dsimp only);omega,fun _=>by omega,fun u v=>?_⟩
    ·rw[<-UE]at TY;omega
    ·have h1:=(me p f u v).2
     have h2:=blo u v
     rw[Int.natCast_add,Int.add_mul]
     omega
end Go.Proofs.YtgoelphibofcmaaGreat.V

namespace Go.Proofs.YtgoelphibofcmaaGreat.V
open Go.RowKit
attribute [local irreducible] dI wpOps gD Call
attribute [local go_sem] aM fM eP gp gm cN upd cD K.av cR AV.cells AV.cell rowOf rowsOf part ld rowAt bz cu dG ef ik bQ dh eA gj e9 dq ek dd dc dU dV bW bf cW bV cY cX ei eo ej cV ck de eh bU aT da cG ij bx cQ b4 aY dn bc dH AV.undef bF bI eb ee dP dM cJ ez eE cF er ep cZ db List.getD_cons_zero List.getD_cons_succ List.getD_nil List.all_cons List.all_nil Bool.and_true Bool.true_and Bool.and_self Bool.not_true Bool.not_false Option.map_some Option.map_none Option.bind_some Option.bind_none List.length_cons List.length_nil List.take_succ_cons List.take_zero List.take_nil List.drop_succ_cons List.drop_zero List.drop_nil List.head?_cons List.map_cons List.map_nil List.getElem?_cons_zero List.getElem?_cons_succ List.cons_append List.nil_append List.append_nil List.length_map List.set_cons_zero List.set_cons_succ Nat.reduceMul eq_self Int.toNat_natCast Int.natCast_nonneg and_self true_and and_true decide_true decide_false Bool.false_eq_true Nat.zero_add Nat.add_zero List.contains_cons List.contains_nil Bool.or_false Bool.false_or beq_self_eq_true Nat.reduceBEq ne_eq not_true_eq_false not_false_eq_true Id.mk.injEq false_and and_false Nat.reduceLT Int.reduceLE Int.reduceLT Int.reduceToNat Int.reduceNeg Int.reduceAdd Nat.le_refl List.length_append beq_true beq_false Bool.not_eq_eq_eq_not or_false false_or dO ai aj aH bp bE cz aX bl aW bj cU bH
noncomputable def tH (n:Nat) (bs:List PB) (t:Int):Bool:=@decide (kF n bs t) (Classical.propDecidable _)
theorem yj {n:Nat} {bs:List PB} {t:Int} (h:kF n bs t):true=tH n bs t:=by simp[tH,h]
theorem Bt {n:Nat} {bs:List PB} {t:Int} (h:¬kF n bs t):false=tH n bs t:=by simp[tH,h]
theorem Lh (cnt:Nat) (hn:cnt<=1048576) (bs:List PB) (hb:∀b∈bs,b.a<cnt/\b.b<cnt) (dE:∀b∈bs,0<=b.s/\b.s<=4) (pW:bs.length<=1048576) (t:Int) (ht:t<=1099511627776):
  aq Tryz.prog 223 [.int .i64 cnt,.sl (bs.map ay),.int .i64 t] (.bool (tH cnt bs t)):=by
 refine aq.body eB rfl fun hl n0=>?_
 clear hl
 have qw:=z7 bs (fun _ _=>0) (fun b h=>(dE b h).1) (fun _ _=>Int.le_refl _)
 have hle:=room_le bs (fun _ _=>0) 0 (fun b h=>(dE b h).2) (fun _ _=>Int.le_refl _) (Int.le_refl _)
 have fS:bs.foldl nI (fun _ _=>0)=kW bs:=rfl
 rw[fS]at qw hle
 (try((repeat(revert hN;revert N;apply Pn.out));refine wk @Nat.zero_add ?_;(repeat(refine Pn.mk ?_;intro N hN))))
 refine aV (fun m env st=>∃y:Nat,m=cnt+1-y/\1<=y/\env 7=.int .i64 (y:Int)/\y<=cnt+1/\∀z,1<=z->z<y->z<cnt->∀S:Nat->Bool,S 0=true->S z=false->t<=jg S bs) (cnt+1-1) ⟨1,rfl,Nat.le_refl _,by(simp only[go_sem, ↓reduceIte,Nat.reduceEqDiff,Nat.reduceAdd,Nat.reduceSub,Nat.reduceLeDiff,reduceCtorEq])<;>rfl,by omega,fun z h1 h2=>by omega⟩ ?_
 rintro m env_b st_b ⟨y,rfl,Q9,b7,hyl,dF⟩ bkp
 have b0:=bkp 0 (by kernel_rfl)
 have b1:=bkp 1 (by kernel_rfl)
 have b2:=bkp 2 (by kernel_rfl)
 simp only[go_sem, ↓reduceIte,Nat.reduceEqDiff,Nat.reduceAdd,Nat.reduceSub,Nat.reduceLeDiff,reduceCtorEq]at b0 b1 b2
 clear bkp
 by_cases hy:(y:Int)<(cnt:Int)
 ·have hyn:y<cnt:=by omega
  (try((repeat(revert hN;revert N;apply Pn.out));refine wk (tw @b0 (tw @b1 (tw @b2 (tw @b7 @hy)))) ?_;(repeat(refine Pn.mk ?_;intro N hN))))
  refine .inr (aJ _ _ _ _ _ (fun r σ1 hq=>?_) (B6 cnt (by omega) hn bs hb dE pW _))
  obtain⟨X,o1,o2,R1,R2,rfl,I,Gc,hM,_⟩:=hq
  refine hN _ _ ?_
  clear hN N
  (try((repeat(revert hN;revert N;apply Pn.out));refine wk (tw @b0 (tw @b1 (tw @b2 @b7))) ?_;(repeat(refine Pn.mk ?_;intro N hN))))
  have QX:=ON cnt (by omega) hn (kW bs) (fun u v _ _=>⟨qw u v,by have:=hle u v;omega⟩) 0 y (by omega) hyn (by omega) t ht X o1 o2 R1 R2 σ1.next I
  refine .inr (aJ _ _ _ _ _ (fun r σ2 hq=>?_) (QX _ hM (by(try dsimp only);omega)))
  obtain⟨val,rfl,sR,mV⟩:=hq
  refine hN _ _ ?_
  clear hN N
  by_cases dQ:val<t
  ·(try((repeat(revert hN;revert N;apply Pn.out));refine wk (tw @b0 (tw @b1 (tw @b2 (tw @b7 @dQ)))) ?_;(repeat(refine Pn.mk ?_;intro N hN))))
   obtain⟨S,h1,h2,h3⟩:=sR.1 dQ
   rw[A6 hb]at h3
   exact aU (b:=false) (.inl rfl) (sd @Nat.zero_add) (Bt fun h=>by have:=h S h1 ⟨y,hyn,h2⟩;omega)
  ·have hw:IntKind.i64.wrap ((y:Int)+1)=((y+1:Nat):Int):=az (by omega)
   (try((repeat(revert hN;revert N;apply Pn.out));refine wk (tw @b0 (tw @b1 (tw @b2 (tw @b7 (tw @dQ @hw))))) ?_;(repeat(refine Pn.mk ?_;intro N hN))))
   refine⟨_,?_,y+1,rfl,by omega,sd (tw @b7 @hw),by omega,fun z h1 h2 h3 S NS NT=>?_⟩
   ·omega
   ·by_cases hzy:z=y
    ·subst hzy
     rcases Int.lt_or_le (jg S bs) t with h|h
     ·exact absurd (sR.2 ⟨S,NS,NT,by rw[A6 hb];exact h⟩) dQ
     ·exact h
    ·exact dF z h1 (by omega) h3 S NS NT
 ·(try((repeat(revert hN;revert N;apply Pn.out));refine wk (tw @b0 (tw @b1 (tw @b2 (tw @b7 @hy)))) ?_;(repeat(refine Pn.mk ?_;intro N hN))))
  exact aU (b:=true) (.inl rfl) (sd @Nat.zero_add) (yj fun S h0 ⟨z,hz,hzf⟩=>by
   have:z≠0:=by rintro rfl;rw[h0]at hzf;cases hzf
   exact dF z (by omega) (by omega) hz S h0 hzf)
theorem ID (cnt:Nat) (hn:cnt<=1048576) (bs:List PB) (hb:∀b∈bs,b.a<cnt/\b.b<cnt) (dE:∀b∈bs,0<=b.s/\b.s<=4) (pW:bs.length<=1048576) (t:Int) (ht:t<=1099511627776):
  aq Tryz.prog 223 [.int .i64 cnt,Ad bs,.int .i64 t] (.bool (tH cnt bs t)):=by
 have h:=Lh cnt hn bs hb dE pW t ht
 cases bs with
 |nil=>exact h.cut mixed (.same _ (.cq (.same _ .nil)))
 |cons b r=>rw[Ae (by simp)];exact h
end Go.Proofs.YtgoelphibofcmaaGreat.V

namespace Go.Proofs.YtgoelphibofcmaaGreat.V
open Go.RowKit
attribute [local irreducible] dI wpOps gD Call
attribute [local go_sem] aM fM eP gp gm cN upd cD K.av cR AV.cells AV.cell rowOf rowsOf part ld rowAt bz cu dG ef ik bQ dh eA gj e9 dq ek dd dc dU dV bW bf cW bV cY cX ei eo ej cV ck de eh bU aT da cG ij bx cQ b4 aY dn bc dH AV.undef bF bI eb ee dP dM cJ ez eE cF er ep cZ db List.getD_cons_zero List.getD_cons_succ List.getD_nil List.all_cons List.all_nil Bool.and_true Bool.true_and Bool.and_self Bool.not_true Bool.not_false Option.map_some Option.map_none Option.bind_some Option.bind_none List.length_cons List.length_nil List.take_succ_cons List.take_zero List.take_nil List.drop_succ_cons List.drop_zero List.drop_nil List.head?_cons List.map_cons List.map_nil List.getElem?_cons_zero List.getElem?_cons_succ List.cons_append List.nil_append List.append_nil List.length_map List.set_cons_zero List.set_cons_succ Nat.reduceMul eq_self Int.toNat_natCast Int.natCast_nonneg and_self true_and and_true decide_true decide_false Bool.false_eq_true Nat.zero_add Nat.add_zero List.contains_cons List.contains_nil Bool.or_false Bool.false_or beq_self_eq_true Nat.reduceBEq ne_eq not_true_eq_false not_false_eq_true Id.mk.injEq false_and and_false Nat.reduceLT Int.reduceLE Int.reduceLT Int.reduceToNat Int.reduceNeg Int.reduceAdd Nat.le_refl List.length_append beq_true beq_false Bool.not_eq_eq_eq_not or_false false_or dO ai aj aH bp bE cz aX bl aW bj cU bH
def CI:Prop:=∀(s:au) (l:List ad),iF s->jl s l->aq Tryz.prog 222 [.agg (ab s),.agg [.sl (l.map aa)]] (Ad (cI s l))
noncomputable def uH (s:au) (l:List ad) (t:Int):Bool:=if 64<iu s l t then false else tH (iu s l t) (dr (ew (aL t (cI s l))) (cI s l)) t
theorem Dw (s:au) (l:List ad) (t:Int):uH s l t=nE s l t:=by
 letI:=Classical.propDecidable (pd l.length (cI s l) t)
 unfold uH
 by_cases h:64<iu s l t
 ·rw[if_pos h]
  exact(mC (p:=False) ⟨False.elim,fun k=>by have:=k.1;unfold iu at h;omega⟩).symm.trans (by simp) |>.symm
 ·rw[if_neg h]
  by_cases hp:kF (iu s l t) (dr (ew (aL t (cI s l))) (cI s l)) t
  ·rw[<-yj hp]
   exact((mC (p:=True) ⟨fun _=>⟨by unfold iu at h;omega,hp⟩,fun _=>trivial⟩).symm.trans (by simp)).symm
  ·rw[<-Bt hp]
   exact((mC (p:=False) ⟨False.elim,fun k=>hp k.2⟩).symm.trans (by simp)).symm
theorem JM (Tm:CI) (s:au) (l:List ad) (t:Int) (ht:t<=1099511627776) (h1:1<=l.length) (hS:iF s) (hA:jl s l):aq Tryz.prog 197 [.agg (ab s),.agg [.sl (l.map aa)],.int .i64 t] (.gK [.bool (nE s l t),.bool (decide ¬64<iu s l t)]):=by
 rw[<-Dw]
 refine aq.body eB rfl fun hl n0=>?_
 clear hl
 have hb:=xU (l:=l) hS
 have pW:=qd (s:=s) hA.1
 have Iu:=hA.1.rn
 have xd:=Tm s l hS hA
 have Qx:=zo l.length h1 (by omega) (cI s l) (fun b h=>⟨(hb b h).1,(hb b h).2.1⟩) (by omega) t
 have hL:=tM (aL t (cI s l))
 have ft:=D8 hL (fun b h=>⟨(hb b h).1,(hb b h).2.1⟩)
 have hlen:=(nk (ew (aL t (cI s l))) (cI s l)).1
 have mU:=jP l.length (ew (aL t (cI s l)))
 have hho:=ID (iu s l t) (by unfold iu;omega) (dr (ew (aL t (cI s l))) (cI s l)) (fun b h=>⟨(ft b h).1,(ft b h).2.1⟩) (fun b h=>by
  obtain⟨_,_,_,c,hc,dt⟩:=ft b h
  rw[dt];have:=hb c hc;omega) (by omega) t ht
 have fQ:(l.map aa).length=l.length:=by simp
 have hzB:∀(g:Rows) (n:Nat) (bs:List PB),V.fz g (n+1) (Ad bs)=some (Ad bs):=fun g n bs=>by
  unfold Ad;split
  ·exact aX _ _
  ·exact cz _ _ _
 rw[ab]at xd
 rw[<-iu]at Qx
 have yp:∀(g:Rows) (x:Int),cP (dO g) 6 [.int .i64 l.length,Ad (cI s l),.int .i64 x]=some [.int .i64 l.length,Ad (cI s l),.int .i64 x]:=fun g x=>by simp only[ai,aj,aH,hzB,Option.map_some]
 have hzh:∀(g:Rows) (x y:Int),cP (dO g) 6 [.int .i64 x,Ad (dr (ew (aL t (cI s l))) (cI s l)),.int .i64 y]=some [.int .i64 x,Ad (dr (ew (aL t (cI s l))) (cI s l)),.int .i64 y]:=fun g x y=>by simp only[ai,aj,aH,hzB,Option.map_some]
 generalize Ad (cI s l)=B1 at *
 generalize Ad (dr (ew (aL t (cI s l))) (cI s l))=B2 at *
 by_cases uf:(64:Int)<(iu s l t:Int)
 ·have ug:64<iu s l t:=by omega
  (repeat(first|((repeat(revert hN;revert N;apply Pn.out));refine wk (tw @ab.eq_1 (tw @uf @fQ)) ?_;(repeat(refine Pn.mk ?_;intro N hN)))|((try apply Or.inl);refine⟨_,aq.x (xd) (sd (tw @ab.eq_1 (tw @uf @fQ))),?_⟩;refine hN _ _ ?_;clear hN N)))
  refine⟨_,aq.x Qx (yp _ _),?_⟩
  refine hN _ _ ?_
  clear hN N
  (try((repeat(revert hN;revert N;apply Pn.out));refine wk @uf ?_;(repeat(refine Pn.mk ?_;intro N hN))))
  exact jx (.inl rfl) (r1:=.bool false) (r2:=.bool false) (sd @Nat.zero_add) (sd @Nat.zero_add) (by rw[uH,if_pos ug,decide_eq_false fun h=>h ug];simp only[eW,bD,cE,fI,Option.map_some])
 ·have ug:¬64<iu s l t:=by omega
  (repeat(first|((repeat(revert hN;revert N;apply Pn.out));refine wk (tw @ab.eq_1 (tw @uf @fQ)) ?_;(repeat(refine Pn.mk ?_;intro N hN)))|((try apply Or.inl);refine⟨_,aq.x (xd) (sd (tw @ab.eq_1 (tw @uf @fQ))),?_⟩;refine hN _ _ ?_;clear hN N)))
  refine⟨_,aq.x Qx (yp _ _),?_⟩
  refine hN _ _ ?_
  clear hN N
  (try((repeat(revert hN;revert N;apply Pn.out));refine wk @uf ?_;(repeat(refine Pn.mk ?_;intro N hN))))
  refine .inl ⟨_,aq.x hho (hzh _ _ _),?_⟩
  refine hN _ _ ?_
  clear hN N
  (try((repeat(revert hN;revert N;apply Pn.out));refine wk @Nat.zero_add ?_;(repeat(refine Pn.mk ?_;intro N hN))))
  exact jx (.inl rfl) (r1:=.bool (tH (iu s l t) (dr (ew (aL t (cI s l))) (cI s l)) t)) (r2:=.bool true) (sd @Nat.zero_add) (sd @Nat.zero_add) (by rw[uH,if_neg ug,decide_eq_true ug];simp only[eW,bD,cE,fI,Option.map_some])
theorem uk (t:Int):aq Tryz.prog 196 [.int .i64 t] (.bool (jc t 1 16)):=by
 refine aq.body eB rfl fun hl n0=>?_
 clear hl
 have h:=k7 t 1 16
 (repeat(first|((repeat(revert hN;revert N;apply Pn.out));refine wk @Nat.zero_add ?_;(repeat(refine Pn.mk ?_;intro N hN)))|((try apply Or.inl);refine⟨_,aq.x (h) (sd @Nat.zero_add),?_⟩;refine hN _ _ ?_;clear hN N)))
 exact aU (b:=jc t 1 16) (.inl rfl) (sd @Nat.zero_add) rfl
theorem xj (Tm:CI) (s:aA) (hn:fV s.aE) (hg:s.aE.ax.length<=1048576) (ht:s.aE.ah.length<=1048576) (hs:∀t∈s.aE.ah,t.br.length<=1048576) (hl:s.aZ.ah.length<=1048576):aq Tryz.prog 105 [.agg (aw s)] (.bool (nq s)):=by
 refine aq.body eB rfl fun lj n0=>?_
 clear lj
 by_cases h0:(s.aZ.ah.length:Int)=0
 ·have hd:decide ((s.aZ.ah.length:Int)=0)=true:=decide_eq_true h0
  (try((repeat(revert hN;revert N;apply Pn.out));refine wk (tw @aw.eq_1 @hd) ?_;(repeat(refine Pn.mk ?_;intro N hN))))
  exact aU (b:=false) (.inl rfl) (sd @Nat.zero_add) (jY fun h=>by have:=h.some;omega)
 have hd:decide ((s.aZ.ah.length:Int)=0)=false:=decide_eq_false h0
 have NU:=ny s.aE s.aZ.ah hn hg ht hs hl
 have Qo:=uk s.aB
 have key:aq Tryz.prog 163 [.agg (ab s.aE),.agg [.sl (s.aZ.ah.map aa)],.int .i64 s.aB] (.gK [.bool (nq s),.int .i64 (if qL s.aE&&pK s.aE s.aZ.ah then(if jc s.aB 1 16 then(if 64<iu s.aE s.aZ.ah s.aB then 4 else 0)else 2)else 1)]):=by
  refine aq.body eB rfl fun lj n0=>?_
  clear lj
  rw[ab]at NU
  cases hA:qL s.aE&&pK s.aE s.aZ.ah
  ·rw[hA]at NU
   have lk:nq s=false:=(jY fun h=>by rw[mz.2 h.set,mb.2 h.z8]at hA;cases hA).symm
   (repeat(first|((repeat(revert hN;revert N;apply Pn.out));refine wk @ab.eq_1 ?_;(repeat(refine Pn.mk ?_;intro N hN)))|((try apply Or.inl);refine⟨_,aq.x (NU) (sd @ab.eq_1),?_⟩;refine hN _ _ ?_;clear hN N)))
   exact jx (.inl rfl) (r1:=.bool false) (r2:=.int .i64 1) (sd @Nat.zero_add) (sd @Nat.zero_add) (by rw[lk];simp only[eW,bD,cE,fI,eM,Option.map_some];rfl)
  rw[hA]at NU
  simp only[Bool.and_eq_true]at hA
  have hS:=mz.1 hA.1
  have hP:=mb.1 hA.2
  cases hT:jc s.aB 1 16
  ·rw[hT]at Qo
   have lk:nq s=false:=(jY fun h=>by have:=h.OX;rw[hT]at this;cases this).symm
   (repeat(first|((repeat(revert hN;revert N;apply Pn.out));refine wk @ab.eq_1 ?_;(repeat(refine Pn.mk ?_;intro N hN)))|((try apply Or.inl);refine⟨_,aq.x (NU) (sd @ab.eq_1),?_⟩;refine hN _ _ ?_;clear hN N)|((try apply Or.inl);refine⟨_,aq.x (Qo) (sd @ab.eq_1),?_⟩;refine hN _ _ ?_;clear hN N)))
   exact jx (.inl rfl) (r1:=.bool false) (r2:=.int .i64 2) (sd @Nat.zero_add) (sd @Nat.zero_add) (by rw[lk];simp only[eW,bD,cE,fI,eM,Option.map_some];rfl)
  have Lo:=ev hT
  rw[hT]at Qo
  have dE:=JM Tm s.aE s.aZ.ah s.aB (by omega) (by omega) hS hP
  rw[ab]at dE
  have hsy:nq s=nE s.aE s.aZ.ah s.aB:=by
   cases hB:nE s.aE s.aZ.ah s.aB
   ·exact(jY fun h=>by have:=pD.2 h.holds;rw[hB]at this;cases this).symm
   ·exact(Cm ⟨hS,hP,by omega,hT,pD.1 hB⟩).symm
  by_cases uf:64<iu s.aE s.aZ.ah s.aB
  ·rw[decide_eq_false fun h=>h uf]at dE
   have lk:nq s=false:=(jY fun h=>by have:=h.holds.1;unfold iu at uf;omega).symm
   (repeat(first|((repeat(revert hN;revert N;apply Pn.out));refine wk @ab.eq_1 ?_;(repeat(refine Pn.mk ?_;intro N hN)))|((try apply Or.inl);refine⟨_,aq.x (NU) (sd @ab.eq_1),?_⟩;refine hN _ _ ?_;clear hN N)|((try apply Or.inl);refine⟨_,aq.x (Qo) (sd @ab.eq_1),?_⟩;refine hN _ _ ?_;clear hN N)|((try apply Or.inl);refine⟨_,aq.x (dE) (sd @ab.eq_1),?_⟩;refine hN _ _ ?_;clear hN N)))
   exact jx (.inl rfl) (r1:=.bool false) (r2:=.int .i64 4) (sd @Nat.zero_add) (sd @Nat.zero_add) (by rw[lk,if_pos uf];simp only[eW,bD,cE,fI,eM,Option.map_some])
  ·rw[decide_eq_true uf,<-hsy]at dE
   (repeat(first|((repeat(revert hN;revert N;apply Pn.out));refine wk @ab.eq_1 ?_;(repeat(refine Pn.mk ?_;intro N hN)))|((try apply Or.inl);refine⟨_,aq.x (NU) (sd @ab.eq_1),?_⟩;refine hN _ _ ?_;clear hN N)|((try apply Or.inl);refine⟨_,aq.x (Qo) (sd @ab.eq_1),?_⟩;refine hN _ _ ?_;clear hN N)|((try apply Or.inl);refine⟨_,aq.x (dE) (sd @ab.eq_1),?_⟩;refine hN _ _ ?_;clear hN N)))
   exact jx (.inl rfl) (r1:=.bool (nq s)) (r2:=.int .i64 0) (sd @Nat.zero_add) (sd @Nat.zero_add) (by rw[if_neg uf];simp only[eW,bD,cE,fI,eM,Option.map_some])
 generalize hcode:(if qL s.aE&&pK s.aE s.aZ.ah then(if jc s.aB 1 16 then(if 64<iu s.aE s.aZ.ah s.aB then(4:Int)else 0)else 2)else 1)=code at key
 rw[ab]at key
 cases hB:nq s
 ·rw[hB]at key
  (repeat(first|((repeat(revert hN;revert N;apply Pn.out));refine wk (tw @aw.eq_1 @hd) ?_;(repeat(refine Pn.mk ?_;intro N hN)))|((try apply Or.inl);refine⟨_,aq.x (key) (sd (tw @aw.eq_1 @hd)),?_⟩;refine hN _ _ ?_;clear hN N)))
  exact aU (b:=false) (.inl rfl) (sd @Nat.zero_add) rfl
 ·rw[hB]at key
  have hP:=wV.1 hB
  have hc:code=0:=by
   rw[<-hcode,mz.2 hP.set,mb.2 hP.z8,hP.OX]
   have:=hP.holds.1
   simp only[Bool.and_self,if_true]
   rw[if_neg (by unfold iu;omega)]
  rw[hc]at key
  (repeat(first|((repeat(revert hN;revert N;apply Pn.out));refine wk (tw @aw.eq_1 @hd) ?_;(repeat(refine Pn.mk ?_;intro N hN)))|((try apply Or.inl);refine⟨_,aq.x (key) (sd (tw @aw.eq_1 @hd)),?_⟩;refine hN _ _ ?_;clear hN N)))
  exact aU (b:=true) (.inl rfl) (sd @Nat.zero_add) rfl
end Go.Proofs.YtgoelphibofcmaaGreat.V

namespace Go.Proofs.YtgoelphibofcmaaGreat.V
open Go.RowKit
variable {P:Program} {hs:Nat}
theorem Hf {q n i:Nat} {ops:Array Oper} {Q:Exit->Act->World->Prop} {K K':Act->World->Prop} {a:Act} {w:World} (mi:∀(j:Nat) (o:Oper),ops[j]? =some o->∀c,o.op≠.defer c) (lk:¬LetsOut Q) (hK:∀a w,K a w->K' a w) (h:wpOp P ops Q i K a w):wpOpIn (Fence.wide.inRound q) n P ops Q i K' a w:=by
 unfold wpOp at h
 unfold wpOpIn
 split at h
 ·rename_i ho;simp only[ho];exact hK _ _ h
 ·rename_i o ho
  simp only[ho]
  split at h
  ·rename_i hw
   rw[if_pos hw]
   replace h:=h.resolve_right fun hc=>lk hc.2
   refine⟨fun _ _=>trivial,?_⟩
   rw[Oper.semAt_eq _ _ _ (mi i o ho)]
   unfold Oper.wp at h
   generalize (execOp a.eval o).run P w=r at *
   cases r with
   |ok m w'=>
    cases m<;>simp only[Oper.upon,Oper.uponIn]at h ⊢
    case value=>exact hK _ _ h
    case skip=>exact hK _ _ h
    case defer=>exact hK _ _ h
    case enter f args=>
     refine⟨fun h=>by simp[Fence.wide]at h,CallsIn.inRound q (callsIn_wide.2 (h.mono fun e KB he=>?_))⟩
     cases e with
     |returned v=>exact hK _ _ he
     |panicked c=>exact he
     |outgrown=>exact he
    case row r args=>exact⟨fun h=>by simp[Fence.wide]at h,fun c cs _=>let ⟨v,KB,h1,s⟩:=h c cs;⟨v,KB,hK _ _ h1,stepsIn_wide.2 s⟩⟩
   |halt x w'=>cases x<;>simp only[Oper.upon,Oper.uponIn]at h ⊢;exact h
  ·rename_i hw
   rw[if_neg hw]
   exact⟨fun _ _=>trivial,hK _ _ h⟩
theorem xb {q n:Nat} {md:Region.Mode} {ops:Array Oper} {Q:Exit->Act->World->Prop} (mi:∀(j:Nat) (o:Oper),ops[j]? =some o->∀c,o.op≠.defer c) (lk:¬LetsOut Q):∀(fuel:Nat) (listed:Array Bool) (a:Act) (w:World),wpAny P md ops Q fuel listed a w->wpAnyIn (Fence.wide.inRound q) n P md ops Q fuel listed a w
 |0,_,_,_,h=>h
 |fuel+1,listed,_,_,h=>⟨h.1,fun i hi=>Hf mi lk (fun a w=>xb mi lk fuel _ a w) (h.2 i hi)⟩
def Ff:Op->Bool
 | .defer _=>true
 |_=>false
theorem Jh {ops:Array Oper} (h:(ops.all fun o=> !Ff o.op)=true):∀(j:Nat) (o:Oper),ops[j]? =some o->∀c,o.op≠.defer c:=fun j o hj c hc=>by
 have:=Array.all_eq_true_iff_forall_mem.1 h o (Array.mem_of_getElem? hj)
 rw[hc]at this
 simp[Ff]at this
theorem zZ (hm:P.follows .mixedOrders=true) {nt site0 id q n:Nat} {ops:Array Oper} {vl:List bd} (h:rf P nt site0 ops true false=some vl) (mi:∀(j:Nat) (o:Oper),ops[j]? =some o->∀c,o.op≠.defer c)
  {K:Env->ar->Prop} {env:Env} {σ:ar} {a:Act} {w:World} {D:Nat->Prop} {ι:Names} {Q:Exit->Act->World->Prop} (hv:wpOps (Sound P) true vl K env σ) (dE:St P hs nt D ι env σ a w)
  (hK:∀iG σ' a' w' D' ι',K iG σ'->Step hs D ι w D' ι' w'->St P hs nt D' ι' iG σ' a' w'->a'.defers=a.defers->Q .normal a' w'):(Code.region id ops true).wpIn (Fence.wide.inRound q) n P Q a w:=by
 have dF:∃hidden tj,allM (kH P ops nt site0 true false (jC ops) hidden) ops.toList 0=some tj/\vl=tj/\oy ops tj (jC ops)=true:=by
  unfold rf at h
  simp only[if_true,Bool.not_true,Bool.false_or]at h
  split at h
  ·rename_i tj h'
   split at h
   ·rename_i vW;simp at h;exact⟨_,tj,h',h.symm,vW⟩
   ·cases h
  ·cases h
 obtain⟨hidden,tj,dF,rfl,vW⟩:=dF
 obtain⟨rF,T0⟩:=dE.drew
 obtain⟨hlen,_⟩:=oq dF
 have kN:vl.length=ops.size:=by rw[hlen];simp
 have De:=w8 (X:=Sound P) (K:=K) (n:=σ.next) vW kN vl 0 (Array.replicate ops.size false) env σ.get (by simp) (by simp) (fun i hi=>by simp[hi]) (by simp[kN]) (fun k i h=>by
  exfalso
  rcases Nat.lt_or_ge k ops.size with hk|hk
  ·simp[hk]at h
  ·simp[Nat.not_lt.2 hk]at h) hv
 rw[kN]at De
 have hw:=xQ (Q:=fun e a w=>e=.normal/\Q .normal a w) dF ops.size _ env σ.get a w.drew D ι (fun _=>False) De rF.ta rF.used (fun _ h=>h.elim) rF.env rF.size fun jh g1 a1 w1 D1 ι1 U1 hk T S1 S6 E1 AG hd=>⟨rfl,hK jh ⟨g1,σ.next+1⟩ a1 w1 D1 ι1 hk (T0.trans T) ⟨S1,S6.next,E1,AG⟩ hd⟩
 have ft:=xb (q:=q) (n:=n) (Q:=fun e a w=>e=.normal/\Q .normal a w) mi (by rintro⟨_,_,hc,_⟩;cases hc) ops.size _ a w.drew hw
 refine wpIn_mono (wpIn_region_any (id:=id) hm ft) ?_
 rintro e a w ⟨rfl,h⟩
 exact h
end Go.Proofs.YtgoelphibofcmaaGreat.V

namespace Go.Proofs.YtgoelphibofcmaaGreat.V
open Go.RowKit Go.Shelf
attribute [local go_sem] Oper.semAt_some
def il (n₀:Nat) (W W':World):Prop:=W.heap.size<=W'.heap.size/\(∀(b:Nat) (cells:Array Value) (T:TypeId) (fr:Nat×Nat),W.heap[b]? =some (Obj.cells cells T fr)->T≠226->T≠246->W'.heap[b]? =W.heap[b]?)/\∀k,k<n₀->k<W.heap.size->W'.heap[k]? =W.heap[k]?
theorem il.trans {n₀:Nat} {A B C:World} (h:il n₀ A B) (k:il n₀ B C):il n₀ A C:=⟨Nat.le_trans h.1 k.1,fun b cells T fr hb h1 h2=>by
 have e:=h.2.1 b cells T fr hb h1 h2
 rw[<-e]at hb ⊢
 exact k.2.1 b cells T fr hb h1 h2,fun b hb hs=>(k.2.2 b hb (Nat.lt_of_lt_of_le hs h.1)).trans (h.2.2 b hb hs)⟩
theorem il.of {n₀:Nat} {W W':World} (h:Below W.heap.size W W'):il n₀ W W':=⟨h.size,fun b cells T fr hb _ _=>h.block b (Array.getElem?_eq_some_iff.1 hb).1,fun k _ hs=>h.block k hs⟩
theorem il.refl (n₀:Nat) (W:World):il n₀ W W:=⟨Nat.le_refl _,fun _ _ _ _ _ _ _=>rfl,fun _ _ _=>rfl⟩
theorem il.b {n₀ m:Nat} (hm:n₀<=m) (W:World) (l:Nat) (o o':Obj) (hl:m<=l) (h:W.heap[l]? =some o) (hc:o.isCells=false) (_:o.isWalk=false):il n₀ W (W.putObj l o'):=by
 refine⟨by simp,fun b cells T fr hb _ _=>?_,fun k hk _=>World.putObj_heap_other (by omega)⟩
 by_cases pW:b=l
 ·subst pW;rw[h]at hb;cases hb;cases hc
 ·exact World.putObj_heap_other pW
def KK (bs:List PB):List Value:=bs.flatMap fun b=>[.int .i64 b.a,.int .i64 b.b,.int .i64 b.s]
theorem HN (bs:List PB) (b:PB):KK (bs++[b])=KK bs++[.int .i64 b.a,.int .i64 b.b,.int .i64 b.s]:=by simp[KK]
def nJ (s:au) (l:List ad) (pre:List (M8 l)):List PB:=(pre.map (·.1)).flatMap (zh s l)
theorem xT (s:au) (l:List ad) (pre:List (M8 l)) (x:M8 l):nJ s l (pre++[x])=nJ s l pre++zh s l x.1:=by simp[nJ]
theorem HM (s:au) (l:List ad) (x:Nat×Nat×Int):(zh s l x).length<=1:=by
 unfold zh;split<;>simp
theorem HO (s:au) (l:List ad) (pre:List (M8 l)):(nJ s l pre).length<=pre.length:=by
 unfold nJ
 induction pre with
 |nil=>simp
 |cons x r ih=>
  have:=HM s l x.1
  simp only[List.map_cons,List.flatMap_cons,List.length_append,List.length_cons]at ih ⊢
  omega
theorem yJ (l:List ad) (i:Nat):∀m,(kS l i m).length<=m
 |0=>by simp[kS]
 |m+1=>by
  rw[nf,List.length_append]
  have:=yJ l i m
  have:(B4 l i (1-(m:Int))).length<=1:=by unfold B4;split<;>simp
  omega
theorem B5 (l:List ad):∀n,(lp l n).length<=n*2
 |0=>by simp[lp]
 |n+1=>by
  rw[mo,List.length_append]
  have:=B5 l n
  have:=yJ l n 2
  omega
theorem Bn {β:Type} (B:Nat) (c:Array Value) (t:TypeId) (fr:Nat×Nat):Own (fun(_:β) W=>W.heap[B]? =some (.cells c t fr)):=fun _ X _ row h hg hr=>(hg.block B (Array.getElem?_eq_some_iff.1 h).1 (fun e=>by
 obtain⟨o,ho,hc⟩:=hr B e.symm
 rw[h]at ho;cases ho;cases hc)).trans h
theorem il.app {n₀:Nat} {W w1:World} {B k:Nat} {v v':Value} {xs:List Value} {tmp:Obj} (hv:Boxed W B 226 v) (fQ:W.ownsRow n₀ 246 3 v k xs) (E0:(W.alloc tmp).grownBy w1 v.ownBlock) (hb:Below n₀ W (w1.setCell ⟨B,0,none⟩ v')):il n₀ W (w1.setCell ⟨B,0,none⟩ v'):=by
 refine⟨hb.size,fun b cells T fr h h1 h2=>?_,fun k hk _=>hb.block k hk⟩
 have dQ:=(Array.getElem?_eq_some_iff.1 h).1
 have hbB:b≠B:=by
  rintro rfl
  rw[show W.heap[b]? = _ from hv]at h
  cases h
  exact h1 rfl
 have Sf:some b≠v.ownBlock:=by
  rcases fQ.2 with⟨rfl,_⟩|⟨g,cap,cur,rfl,_,hg,_⟩
  ·simp[Value.ownBlock]
  ·intro e
   obtain rfl:b=g:=by simpa[Value.ownBlock]using e
   rw[hg]at h;cases h
   exact h2 rfl
 refine(Below.heap_setCell w1 ⟨B,0,none⟩ v' b hbB).trans ?_
 exact(E0.block b (by simp;omega) Sf).trans (Below.heap_alloc W tmp b dQ)
theorem Rg {w:World} {vS:Value} {l:List ad} (hP:pJ w vS l):Hz (il w.heap.size) vS l where
 refl:=il.refl _
 trans:=il.trans
 of:=il.of
 size h:=h.1
 typed h:=h.2.1
 pl {W W'} h hp:=by
  obtain⟨A,c,rfl,hm,hc⟩:=hp.sl
  refine⟨A,c,rfl,hm,?_⟩
  by_cases hl:l=[]
  ·exact .inl hl
  have kj:0<l.length:=List.length_pos_iff.2 hl
  rcases hc with h0|⟨b,o,rfl,kn⟩
  ·exact absurd h0 hl
  obtain⟨A',c',e,_,kM⟩:=hP.sl
  cases e
  rcases kM with h0|⟨b',o',e,hcell'⟩
  ·exact absurd h0 hl
  cases e
  have hb:=uu (hcell' 0 kj).1
  have hk:=h.2.2 b hb (uu (kn 0 kj).1)
  refine .inr ⟨b,o,rfl,fun i hi=>?_⟩
  have zC:∀x,W'.cell? ⟨b,x,none⟩=W.cell? ⟨b,x,none⟩:=fun x=>World.cell?_of_block hk
  rw[zC,zC,zC]
  exact kn i hi
theorem rrE {P:Program} {nt site0:Nat} {ops:Array Oper} {vl:List bd} (_:zj P ops site0 false (jC ops) (rK P false ops.toList 0) ops.toList 0=some vl:=by(conv=>lhs;cbv)<;>exact rfl) (h:rf P nt site0 ops true false=some vl:=by kernel_rfl):rf P nt site0 ops true false=some vl:=h
theorem I8 (l:List Value) (d:Value):l=(List.range l.length).map fun i=>(⟨l⟩:Array Value).getD i d:=by
 refine List.ext_getElem (by simp) fun i h1 h2=>?_
 simp[h1]
theorem DQ {X:fF} {d:Bool} {ops:List bd} {K:Env->ar->Prop} {env:Env} {σ:ar} (h:dI X (.eI d ops) (fun _=>K) env σ):wpOps X d ops K env σ:=h
theorem vm (W:World) (T:TypeId) (x y z:Value):∀(j:Nat) (u:Value),[x,y,z][j]? =some u->(W.alloc (.cells #[x,y,z] T)).cell? ((⟨W.heap.size,0,none⟩:Addr).add j)=some u:=fun j u h=>by
 have hb:(W.alloc (.cells #[x,y,z] T)).heap[W.heap.size]? =some (.cells #[x,y,z] T (0,0)):=World.alloc_heap_new _ _
 have e:∀k,(W.alloc (.cells #[x,y,z] T)).cell? ⟨W.heap.size,k,none⟩=(#[x,y,z]:Array Value)[k]? :=fun k=>by
  unfold World.cell?
  rw[show(W.alloc (.cells #[x,y,z] T)).heap[(⟨W.heap.size,k,none⟩:Addr).block]? = _ from hb]
  rfl
 rw[show(⟨W.heap.size,0,none⟩:Addr).add j=⟨W.heap.size,j,none⟩ by simp[Addr.add];exact fun h=>h.symm,e]
 simpa using h
def HU (n b:Nat):Names:=fun id=>if id=⟨1,0⟩then some ⟨n,2,2,none⟩else if id=⟨2,0⟩then some ⟨n+1,1,1,none⟩else if id=⟨3,0⟩then some ⟨n+1+1,1,1,none⟩else if id=⟨4,0⟩then some ⟨b,2,2,none⟩else if id=⟨5,0⟩then some ⟨n+1+1+1,1,1,none⟩else none
def Mq (s:au) (l:List ad) (i k:Nat):Rows:=fun id=>if id=⟨1,0⟩then some ⟨false,2,[ab s]⟩else if id=⟨2,0⟩then some ⟨false,1,[[.sl (l.map aa)]]⟩else if id=⟨4,0⟩then some ⟨false,2,[[.int .i64 (i:Int),.int .i64 (k:Int)]]⟩else none
def Nl (s:au) (l:List ad) (i k:Nat) (d:Int):Env:=cD [.agg (ab s),.agg [.sl (l.map aa)],.ptr ⟨1,0⟩ 0 0,.ptr ⟨2,0⟩ 0 0,.cq,.ptr ⟨3,0⟩ 0 0,.ptr ⟨4,0⟩ 0 0,.int .i64 d,.undef,.agg [.sl (l.map aa)],.fn 264 [.ptr ⟨5,0⟩ 0 0],.agg [.int .i64 (i:Int),.int .i64 (k:Int)],.int .i64 d]
theorem DZ {P:Program} {W:World} {D:Nat->Prop} {ι:Names} {B:si} {cells:Array Value} {T:TypeId} {cs:List AV} (hk:B.k=none) (hb:W.heap[B.b]? =some (.cells cells T (0,0))) (hC:cells.size=B.C) (hz:B.sz=cs.length) (hl:cs.length=cells.size) (hf:∀a∈cs,a.cell=true) (hr:∀(j:Nat) (a:AV),cs[j]? =some a->∃v,cells[j]? =some v/\cH P W D ι a v):gL P W D ι B ⟨false,cs.length,[cs]⟩:=
 lv.obj ⟨hz,⟨cells,T,hb,hC⟩,by simp;omega,fun c hc=>by simp at hc;rw[hc],fun c hc=>by simp at hc;rw[hc];exact hf,fun i j c a hi hj=>by
  match i,hi with
  |0,hi=>
   simp at hi;subst hi
   obtain⟨v,h1,h2⟩:=hr j a hj
   exact⟨v,by simp[World.cell?,hb,h1],h2⟩
  |i+1,hi=>simp at hi⟩ hk
theorem IU:(Tryz.prog.info? 246).map (fun i=>(i.zero,i.size,i.bytes))=some (some (.agg #[.int .i64 0,.int .i64 0,.int .i64 0]),3,24):=by kernel_rfl
end Go.Proofs.YtgoelphibofcmaaGreat.V

namespace Go.Proofs.YtgoelphibofcmaaGreat.V
open Go.RowKit Go.Shelf
attribute [local go_sem] Oper.semAt_some
attribute [local irreducible] dI wpOps gD Call
attribute [local go_sem] aM fM eP gp gm cN upd cD K.av cR AV.cells AV.cell rowOf rowsOf part ld rowAt bz cu dG ef ik bQ dh eA gj e9 dq ek dd dc dU dV bW bf cW bV cY cX ei eo ej cV ck de eh bU aT da cG ij bx cQ b4 aY dn bc dH AV.undef bF bI eb ee dP dM cJ ez eE cF er ep cZ db List.getD_cons_zero List.getD_cons_succ List.getD_nil List.all_cons List.all_nil Bool.and_true Bool.true_and Bool.and_self Bool.not_true Bool.not_false Option.map_some Option.map_none Option.bind_some Option.bind_none List.length_cons List.length_nil List.take_succ_cons List.take_zero List.take_nil List.drop_succ_cons List.drop_zero List.drop_nil List.head?_cons List.map_cons List.map_nil List.getElem?_cons_zero List.getElem?_cons_succ List.cons_append List.nil_append List.append_nil List.length_map List.set_cons_zero List.set_cons_succ Nat.reduceMul eq_self Int.toNat_natCast Int.natCast_nonneg and_self true_and and_true decide_true decide_false Bool.false_eq_true Nat.zero_add Nat.add_zero List.contains_cons List.contains_nil Bool.or_false Bool.false_or beq_self_eq_true Nat.reduceBEq ne_eq not_true_eq_false not_false_eq_true Id.mk.injEq false_and and_false Nat.reduceLT Int.reduceLE Int.reduceLT Int.reduceToNat Int.reduceNeg Int.reduceAdd Nat.le_refl List.length_append beq_true beq_false Bool.not_eq_eq_eq_not or_false false_or dO ai aj aH bp bE cz aX bl aW bj cU bH
theorem HS (s:au) (l:List ad) (hF:kE s) (hA:jl s l) (w:World) (Ag At:Option Addr) (ng cg nt ct:Nat) (vS:Value) (hT:jG Tryz.prog w (fun b=>b<w.heap.size) (.agg (ab s)) (.agg #[.slice Ag ng cg,.slice At nt ct])) (hP:pJ w vS l):
  CallsIn Fence.wide 5 Tryz.prog 222 #[.agg #[.slice Ag ng cg,.slice At nt ct],.agg #[vS]] w fun e W'=>∃v,e=.returned v/\W'.ownsRow w.heap.size 246 3 v (cI s l).length (KK (cI s l))/\(v=.slice none 0 0↔cI s l=[])/\Below w.heap.size w W':=by
 obtain⟨A,cp,rfl,_,_⟩:=hP.sl
 obtain⟨i0,hi,Hr,AG,lg⟩:=info_parts IU
 refine callsIn_of_wp_marks Tryz.func222 rfl trivial ?_ rfl
 simp only[Tryz.ntmps222,List.size_toArray,List.length_cons,List.length_nil,Nat.reduceAdd,Nat.reduceSub,Array.replicate_succ,Array.replicate_zero,List.push_toArray,List.append_toArray,List.nil_append,List.cons_append]
 gi_wp2_with (refine⟨trivial,?_⟩;gi_at_call 244;refine(zT _ _ _).mono ?_;rintro e w' ⟨rfl,rfl⟩)
 have bT:((w.alloc (.cells #[.slice Ag ng cg,.slice At nt ct] 38)).heap[w.heap.size]?)=some (.cells #[.slice Ag ng cg,.slice At nt ct] 38 (0,0)):=World.alloc_heap_new _ _
 obtain⟨w1,nU⟩:∃w1,w.alloc (.cells #[.slice Ag ng cg,.slice At nt ct] 38)=w1:=⟨_,rfl⟩
 have PR:w1.heap.size=w.heap.size+1:=by rw[<-nU];simp
 have AB:Below w.heap.size w w1:=by rw[<-nU];exact(Below.refl _ w).alloc (Nat.le_refl _) _
 rw[nU]at bT ⊢
 clear nU
 have bA:=Boxed.new w1 41 (.slice A l.length cp)
 have bO:=Boxed.new (w1.alloc (.cells #[.slice A l.length cp] 41)) 226 (.slice none 0 0)
 have bN:=Boxed.new ((w1.alloc (.cells #[.slice A l.length cp] 41)).alloc (.cells #[.slice none 0 0] 226)) 41 (.slice A l.length cp)
 replace bA:=(bA.alloc (.cells #[.slice none 0 0] 226)).alloc (.cells #[.slice A l.length cp] 41)
 replace bO:=bO.alloc (.cells #[.slice A l.length cp] 41)
 simp only[World.size_alloc,PR]at bA bO bN
 have pN:Below w1.heap.size w1 (((w1.alloc (.cells #[.slice A l.length cp] 41)).alloc (.cells #[.slice none 0 0] 226)).alloc (.cells #[.slice A l.length cp] 41)):=(((Below.refl _ w1).alloc (Nat.le_refl _) _).alloc (by simp) _).alloc (by simp;omega) _
 have fj:(((w1.alloc (.cells #[.slice A l.length cp] 41)).alloc (.cells #[.slice none 0 0] 226)).alloc (.cells #[.slice A l.length cp] 41)).heap.size=w.heap.size+4:=by simp;omega
 obtain⟨W0,hW0⟩:∃W0,((w1.alloc (.cells #[.slice A l.length cp] 41)).alloc (.cells #[.slice none 0 0] 226)).alloc (.cells #[.slice A l.length cp] 41)=W0:=⟨_,rfl⟩
 rw[hW0]at bA bO bN pN fj ⊢
 clear hW0
 have Bl:Below w.heap.size w W0:=AB.trans (pN.mono (by omega))
 replace bT:=(pN.block w.heap.size (by omega)).trans bT
 have hP0:pJ W0 (.slice A l.length cp) l:=hP.below Bl
 have kl:=Rg hP
 have pW:=qd (s:=s) hA.1
 refine wpIn_rangeFunc_ownH (n:=5) rfl (by omega) (gf:=264) (lb:= #[.pointer (some ⟨w.heap.size+1+1+1,0,none⟩)]) rfl trivial (enters_of Tryz.func264 (by kernel_rfl) rfl)
  (Jf l hA.1 (w.heap.size+1+1+1) (5-1) (by omega) (.slice A l.length cp) (il w.heap.size) kl W0 bN hP0) il.trans (il.b (by omega)) (Below.refl _ _) (fun _=>rfl)
  (fun pre W=>((∃v,Boxed W (w.heap.size+1+1) 226 v/\W.ownsRow w.heap.size 246 3 v (nJ s l pre).length (KK (nJ s l pre))/\(v=.slice none 0 0↔nJ s l pre=[]))/\(Boxed W (w.heap.size+1) 41 (.slice A l.length cp)/\W.heap[w.heap.size]? =some (.cells #[.slice Ag ng cg,.slice At nt ct] 38 (0,0))))/\Below w.heap.size w W)
  (fun _ _ _=>False)
  (OwnFrom.and (OwnFrom.and (Own.from (holdsRow_own w.heap.size (w.heap.size+1+1) 226 246 3 (fun pre=>(nJ s l pre).length) (fun pre=>KK (nJ s l pre)) (fun pre v=>v=.slice none 0 0↔nJ s l pre=[])) _) (OwnFrom.and (Own.from (boxed_own _ _ _) _) (Own.from (Bn _ _ _ _) _))) (ownFrom_below (Nat.le_refl _) (by omega)))
  (fun _ _ _ _ _ hs _ _=>hs)
  ⟨⟨⟨_,bO,World.ownsRow_nil _ _ _ _,by simp[nJ]⟩,bA,bT⟩,Bl⟩
  (fun x a' W=>∃Bx,w.heap.size+1+1<Bx/\W.heap[Bx]? =some (.cells #[.int .i64 (x.1.1:Int),.int .i64 (x.1.2.1:Int)] 283 (0,0))/\a'={tmps:= #[.agg #[.slice Ag ng cg,.slice At nt ct],.agg #[.slice A l.length cp],.pointer (some ⟨w.heap.size,0,none⟩),.pointer (some ⟨w.heap.size+1,0,none⟩),.slice none 0 0,.pointer (some ⟨w.heap.size+1+1,0,none⟩),.pointer (some ⟨Bx,0,none⟩),.int .i64 x.1.2.2,undef,.agg #[.slice A l.length cp],.func (.func 264) #[] #[.pointer (some ⟨w.heap.size+1+1+1,0,none⟩)],.agg #[.int .i64 (x.1.1:Int),.int .i64 (x.1.2.1:Int)],.int .i64 x.1.2.2,undef,undef,undef,undef,undef,undef,undef,undef,undef,undef,undef,undef,undef,undef,undef,undef,undef,undef,undef,undef,undef,undef,undef,undef,undef,undef,undef,undef,undef],defers:=[]})
  (fun x a' _ X Y row hs hg hr=>by obtain⟨Bx,h1,h2,h3⟩:=hs;exact⟨Bx,h1,Bn Bx _ _ _ () X Y row h2 hg (fun r e=>(hr r e).2),h3⟩)
  ?assign ?body ?done ?stop
 case assign=>
  rintro q pre ⟨⟨x0,x1,x2⟩,hx⟩ W K ⟨⟨⟨v,hv,fQ,hnil⟩,bA1,bT1⟩,hB⟩ hK
  simp only[EL]
  gi_wp2
  exact hK _ _ ((KeepsOthers.alloc _ _).from _) (il.of ((Below.refl _ W).alloc (Nat.le_refl _) _)) ⟨⟨⟨v,hv.alloc _,fQ.alloc _,hnil⟩,bA1.alloc _,(Below.heap_alloc _ _ _ (Array.getElem?_eq_some_iff.1 bT1).1).trans bT1⟩,hB.alloc hB.size _⟩ ⟨W.heap.size,hv.lt,World.alloc_heap_new _ _,rfl⟩
 case body=>
  rintro q pre ⟨⟨x0,x1,x2⟩,hx⟩ a' W hq hqr ⟨⟨⟨v,hv,fQ,hnil⟩,bA1,bT1⟩,hB⟩ ⟨Bx,hBx,bX,rfl⟩ dQ
  obtain⟨CG,IT,yn⟩:=hx
  simp only at CG IT yn bX
  obtain⟨A',c',e',_,hc⟩:=(hP.below hB).sl
  cases e'
  have dt:∃b o,A=some ⟨b,o,none⟩/\W.cell? ⟨b,o+x0*3+2,none⟩=some (.int .i64 (aI l x0).aQ)/\W.cell? ⟨b,o+x1*3+2,none⟩=some (.int .i64 (aI l x1).aQ):=by
   rcases hc with rfl|⟨b,o,rfl,kn⟩
   ·simp at CG
   ·exact⟨b,o,rfl,by rw[Nat.add_assoc];exact(kn x0 CG).2.2,by rw[Nat.add_assoc];exact(kn x1 IT).2.2⟩
  obtain⟨b,o,rfl,cP0,cP1⟩:=dt
  have cT0:W.cell? ⟨w.heap.size,0,none⟩=some (.slice Ag ng cg):=by simp[World.cell?,bT1]
  have cT1:W.cell? ⟨w.heap.size,1,none⟩=some (.slice At nt ct):=by simp[World.cell?,bT1]
  have cX0:W.cell? ⟨Bx,0,none⟩=some (.int .i64 (x0:Int)):=by simp[World.cell?,bX]
  have cX1:W.cell? ⟨Bx,1,none⟩=some (.int .i64 (x1:Int)):=by simp[World.cell?,bX]
  have cA:=bA1.cell
  have dP0:W.drew.cell? ⟨b,o+x0*3+2,none⟩=some (.int .i64 (aI l x0).aQ):=cP0
  have dP1:W.drew.cell? ⟨b,o+x1*3+2,none⟩=some (.int .i64 (aI l x1).aQ):=cP1
  have dT0:W.drew.cell? ⟨w.heap.size,0,none⟩=some (.slice Ag ng cg):=cT0
  have dT1:W.drew.cell? ⟨w.heap.size,1,none⟩=some (.slice At nt ct):=cT1
  have dX0:W.drew.cell? ⟨Bx,0,none⟩=some (.int .i64 (x0:Int)):=cX0
  have dX1:W.drew.cell? ⟨Bx,1,none⟩=some (.int .i64 (x1:Int)):=cX1
  have dA:W.drew.cell? ⟨w.heap.size+1,0,none⟩=some (.slice (some ⟨b,o,none⟩) l.length cp):=cA
  have sP:∀i,i<l.length->aI l i∈l:=fun i hi=>by
   unfold aI
   rw[List.getD_eq_getElem?_getD,List.getElem?_eq_getElem hi]
   exact List.getElem_mem hi
  have Ug:=mixed
  have hfw:=hA.1.rn
  have Sg:=HR s hF (aI l x0).aQ x2 (aI l x1).aQ (hA.2 _ (sP x0 CG)) (hA.2 _ (sP x1 IT)) (kO (by omega))
  have hTW:jG Tryz.prog W (fun b=>b<w.heap.size) (.agg (ab s)) (.agg #[.slice Ag ng cg,.slice At nt ct]):=hT.frame (fun b hb=>hB.block b hb) (fun _ h=>h)
  have hAW:jG Tryz.prog W (fun b=>b<w.heap.size) (.sl (l.map aa)) (.slice (some ⟨b,o,none⟩) l.length cp):=hP.eL.frame (fun b hb=>hB.block b hb) (fun _ h=>h)
  obtain⟨fT,hT0,hT1⟩:∃f:Nat->Value,(∀j,j<(ab s).length->(#[Value.slice Ag ng cg,.slice At nt ct])[j]? =some (f j))/\∀j a,(ab s)[j]? =some a->jG Tryz.prog W (fun b=>b<w.heap.size) a (f j):=by
   cases hTW with
   |agg _ _ f _ _ h3 h4=>exact⟨f,h3,h4⟩
  have dE:St Tryz.prog W.heap.size 42 (fun b=>b<w.heap.size) (HU w.heap.size Bx) (Nl s l x0 x1 x2) ⟨Mq s l x0 x1,1⟩ {tmps:= #[.agg #[.slice Ag ng cg,.slice At nt ct],.agg #[.slice (some ⟨b,o,none⟩) l.length cp],.pointer (some ⟨w.heap.size,0,none⟩),.pointer (some ⟨w.heap.size+1,0,none⟩),.slice none 0 0,.pointer (some ⟨w.heap.size+1+1,0,none⟩),.pointer (some ⟨Bx,0,none⟩),.int .i64 x2,undef,.agg #[.slice (some ⟨b,o,none⟩) l.length cp],.func (.func 264) #[] #[.pointer (some ⟨w.heap.size+1+1+1,0,none⟩)],.agg #[.int .i64 (x0:Int),.int .i64 (x1:Int)],.int .i64 x2,undef,undef,undef,undef,undef,undef,undef,undef,undef,undef,undef,undef,undef,undef,undef,undef,undef,undef,undef,undef,undef,undef,undef,undef,undef,undef,undef,undef,undef],defers:=[]} W:=by
   have n1:(HU w.heap.size Bx) ⟨1,0⟩=some ⟨w.heap.size,2,2,none⟩:=rfl
   have n2:(HU w.heap.size Bx) ⟨2,0⟩=some ⟨w.heap.size+1,1,1,none⟩:=rfl
   have n3:(HU w.heap.size Bx) ⟨3,0⟩=some ⟨w.heap.size+1+1,1,1,none⟩:=rfl
   have n4:(HU w.heap.size Bx) ⟨4,0⟩=some ⟨Bx,2,2,none⟩:=rfl
   have n5:(HU w.heap.size Bx) ⟨5,0⟩=some ⟨w.heap.size+1+1+1,1,1,none⟩:=rfl
   have rp:∀(id:Id) (B:si),(HU w.heap.size Bx) id=some B->B.k=none->cH Tryz.prog W (fun b=>b<w.heap.size) (HU w.heap.size Bx) (.ptr id 0 0) (.pointer (some ⟨B.b,0,none⟩)):=fun id B h hk=>by
    have:=cH.ptr (P:=Tryz.prog) (w:=W) (D:=fun b=>b<w.heap.size) id 0 0 B h hk
    simpa using this
   have ri:∀n:Int,cH Tryz.prog W (fun b=>b<w.heap.size) (HU w.heap.size Bx) (.int .i64 n) (.int .i64 n):=fun n=>.eL _ _ (.int _ _)
   have hA1:jG Tryz.prog W (fun b=>b<w.heap.size) (.agg [.sl (l.map aa)]) (.agg #[.slice (some ⟨b,o,none⟩) l.length cp]):=.agg _ _ (fun _=>.slice (some ⟨b,o,none⟩) l.length cp) rfl (fun a ha=>by simp at ha;rw[ha];rfl) (fun j hj=>by match j,hj with|0,_=>rfl|j+1,hj=>simp at hj) (fun j a ha=>by match j,ha with|0,ha=>simp at ha;subst ha;exact hAW|j+1,ha=>simp at ha)
   refine⟨⟨Nat.le_refl _,fun b hb=>Nat.lt_of_lt_of_le hb hB.size,fun id r hg=>?_,fun id jW r r' B B' h _ hw=>?_⟩,fun id hid=>?_,fun t=>?_,rfl⟩
   ·replace hg:Mq s l x0 x1 id=some r:=hg
    unfold Mq at hg
    split at hg
    ·rename_i e;subst e;injection hg with hg;subst hg
     exact⟨_,n1,DZ (cs:=ab s) rfl bT1 rfl rfl rfl (fun a ha=>by simp[ab]at ha;rcases ha with rfl|rfl<;>rfl) (fun j a ha=>⟨_,hT0 j (List.getElem?_eq_some_iff.1 ha).1,.eL _ _ (hT1 j a ha)⟩),fun h=>(by cases h),fun h=>(by cases h)⟩
    ·split at hg
     ·rename_i e;subst e;injection hg with hg;subst hg
      exact⟨_,n2,DZ (cs:=[.sl (l.map aa)]) rfl bA1 rfl rfl rfl (fun a ha=>by simp at ha;rw[ha];rfl) (fun j a ha=>by match j,ha with|0,ha=>simp at ha;subst ha;exact⟨_,rfl,.eL _ _ hAW⟩|j+1,ha=>simp at ha),fun h=>(by cases h),fun h=>(by cases h)⟩
     ·split at hg
      ·rename_i e;subst e;injection hg with hg;subst hg
       exact⟨_,n4,DZ (cs:=[.int .i64 (x0:Int),.int .i64 (x1:Int)]) rfl bX rfl rfl rfl (fun a ha=>by simp at ha;rcases ha with rfl|rfl<;>rfl) (fun j a ha=>by match j,ha with|0,ha=>simp at ha;subst ha;exact⟨_,rfl,ri _⟩|1,ha=>simp at ha;subst ha;exact⟨_,rfl,ri _⟩|j+2,ha=>simp at ha),fun h=>(by cases h),fun h=>(by cases h)⟩
      ·cases hg
   ·exfalso
    replace h:Mq s l x0 x1 id=some r:=h
    unfold Mq at h
    split at h
    ·injection h with h;subst h;cases hw
    ·split at h
     ·injection h with h;subst h;cases hw
     ·split at h
      ·injection h with h;subst h;cases hw
      ·cases h
   ·left
    unfold HU at hid
    repeat' (split at hid)
    all_goals first|(rename_i e;subst e;exact Nat.zero_lt_one)|exact absurd rfl hid
   ·match t with
    |0=>exact .eL _ _ hTW
    |1=>exact .eL _ _ hA1
    |2=>exact rp _ _ n1 rfl
    |3=>exact rp _ _ n2 rfl
    |4=>exact .eL _ _ .cq
    |5=>exact rp _ _ n3 rfl
    |6=>exact rp _ _ n4 rfl
    |7=>exact ri _
    |8=>exact cH.undef
    |9=>exact .eL _ _ hA1
    |10=>exact .fn _ _ _ (fun _=>.pointer (some ⟨w.heap.size+1+1+1,0,none⟩)) (by kernel_rfl) rfl (fun j hj=>by match j,hj with|0,_=>rfl|j+1,hj=>simp at hj) (fun j a ha=>by match j,ha with|0,ha=>simp at ha;subst ha;exact rp _ _ n5 rfl|j+1,ha=>simp at ha)
    |11=>exact .agg _ _ (fun j=>if j=0 then .int .i64 (x0:Int)else .int .i64 (x1:Int)) rfl (fun a ha=>by simp at ha;rcases ha with rfl|rfl<;>rfl) (fun j hj=>by match j,hj with|0,_=>rfl|1,_=>rfl|j+2,hj=>simp at hj;omega) (fun j a ha=>by match j,ha with|0,ha=>simp at ha;subst ha;exact ri _|1,ha=>simp at ha;subst ha;exact ri _|j+2,ha=>simp at ha)
    |12=>exact ri _
    |13=>exact cH.undef
    |14=>exact cH.undef
    |15=>exact cH.undef
    |16=>exact cH.undef
    |17=>exact cH.undef
    |18=>exact cH.undef
    |19=>exact cH.undef
    |20=>exact cH.undef
    |21=>exact cH.undef
    |22=>exact cH.undef
    |23=>exact cH.undef
    |24=>exact cH.undef
    |25=>exact cH.undef
    |26=>exact cH.undef
    |27=>exact cH.undef
    |28=>exact cH.undef
    |29=>exact cH.undef
    |30=>exact cH.undef
    |31=>exact cH.undef
    |32=>exact cH.undef
    |33=>exact cH.undef
    |34=>exact cH.undef
    |35=>exact cH.undef
    |36=>exact cH.undef
    |37=>exact cH.undef
    |38=>exact cH.undef
    |39=>exact cH.undef
    |40=>exact cH.undef
    |41=>exact cH.undef
    |t+42=>exact cH.undef
  have hV:wpOps (Call Tryz.prog) true ?vl (fun e _=>e 5=.ptr ⟨3,0⟩ 0 0/\e 6=.ptr ⟨4,0⟩ 0 0/\e 8=.int .i64 (gT s (aI l x0).aQ x2 (aI l x1).aQ)) (Nl s l x0 x1 x2) ⟨Mq s l x0 x1,1⟩:= ?hv
  gi_wp2
  refine zZ mixed (rrE (nt:=42) (site0:=222005000)) (Jh (by kernel_rfl)) (k8 (fun _ _ _ _ h=>gn mixed h) kG (fun _ _ h=>h) _ _ _ hV) dE ?_
  rintro e1 σ1 ⟨tm,df⟩ w3 D1 ι1 ⟨h5,h6,h8⟩ T1 sr Dg
  case hv=>
   refine DQ ?_
   have e0:=fu CG
   have e1:=fu IT
   (repeat(first|((repeat(revert hN;revert N;apply Pn.out));refine wk (tw @e0 (tw @e1 (tw @Nl.eq_1 (tw @Mq.eq_1 (tw @aa.eq_1 @ab.eq_1))))) ?_;(repeat(refine Pn.mk ?_;intro N hN)))|((try apply Or.inl);refine⟨_,aq.x (Sg) (sd (tw @e0 (tw @e1 (tw @Nl.eq_1 (tw @Mq.eq_1 (tw @aa.eq_1 @ab.eq_1)))))),?_⟩;refine hN _ _ ?_;clear hN N)))
   exact⟨sd @Nl.eq_1,sd @Nl.eq_1,sd @Nl.eq_1⟩
  ·have Bm:Below W.heap.size W w3:=T1.below
   have rE:∀id B,HU w.heap.size Bx id=some B->ι1 id=some B:=T1.names
   have p5:tm.getD 5 undef=.pointer (some ⟨w.heap.size+1+1,0,none⟩):=by
    have g:=sr.env 5
    rw[h5]at g
    obtain⟨B,e,hB,_⟩:=iA g
    have h:=rE ⟨3,0⟩ ⟨w.heap.size+1+1,1,1,none⟩ rfl
    rw[h]at hB;injection hB with hB;subst hB
    simpa using e
   have p6:tm.getD 6 undef=.pointer (some ⟨Bx,0,none⟩):=by
    have g:=sr.env 6
    rw[h6]at g
    obtain⟨B,e,hB,_⟩:=iA g
    have h:=rE ⟨4,0⟩ ⟨Bx,2,2,none⟩ rfl
    rw[h]at hB;injection hB with hB;subst hB
    simpa using e
   have p8:tm.getD 8 undef=.int .i64 (gT s (aI l x0).aQ x2 (aI l x1).aQ):=by
    have g:=sr.env 8
    rw[h8]at g
    exact dp g
   have fj:=sr.size
   obtain⟨tl⟩:=tm
   obtain⟨f,Om,hf⟩:∃f:Nat->Value,tl=[f 0,f 1,f 2,f 3,f 4,f 5,f 6,f 7,f 8,f 9,f 10,f 11,f 12,f 13,f 14,f 15,f 16,f 17,f 18,f 19,f 20,f 21,f 22,f 23,f 24,f 25,f 26,f 27,f 28,f 29,f 30,f 31,f 32,f 33,f 34,f 35,f 36,f 37,f 38,f 39,f 40,f 41]/\∀i,f i=(⟨tl⟩:Array Value).getD i undef:=by
    refine⟨fun i=>(⟨tl⟩:Array Value).getD i undef,?_,fun _=>rfl⟩
    have h:=I8 tl undef
    rw[show tl.length=42 from fj]at h
    exact h
   rw[<-hf]at p5 p6 p8
   have TV:df=[]:=Dg
   subst TV
   clear hf sr dE hV
   subst Om
   rw[p5,p6,p8]
   have SH:=hv.kept (grown_of Bm) (by simp)
   have E7:=fQ.kept (grown_of Bm) (by rcases fQ.2 with⟨e,_⟩|⟨_,_,_,e,_⟩<;>rw[e]<;>simp[Value.ownBlock])
   have hc3:=SH.cell
   have hn3:w.heap.size<=w3.heap.size:=Nat.le_trans hB.size Bm.size
   have eX0:w3.cell? ⟨Bx,0,none⟩=some (.int .i64 (x0:Int)):=(Bm.cell (p:=⟨Bx,0,none⟩) (Array.getElem?_eq_some_iff.1 bX).1).trans cX0
   have eX1:w3.cell? ⟨Bx,1,none⟩=some (.int .i64 (x1:Int)):=(Bm.cell (p:=⟨Bx,1,none⟩) (Array.getElem?_eq_some_iff.1 bX).1).trans cX1
   have l7:(nJ s l pre).length<=2097152:=by
    have h1:=HO s l pre
    have h2:=B5 l l.length
    omega
   have hKF:KeepsFrom (w.heap.size+4) W w3:=⟨Bm.size,fun k o _ hk _=>(Bm.block k (Array.getElem?_eq_some_iff.1 hk).1).trans hk⟩
   have hKT:il w.heap.size W w3:=il.of Bm
   have Tb:w3.heap[w.heap.size+1]? = _:=(Bm.block _ bA1.lt).trans bA1
   have Td:=(Bm.block _ (Array.getElem?_eq_some_iff.1 bT1).1).trans bT1
   by_cases kj:0<gT s (aI l x0).aQ x2 (aI l x1).aQ
   ·have xd:nJ s l (pre++[⟨(x0,x1,x2),CG,IT,yn⟩])=nJ s l pre++[⟨x0,x1,gT s (aI l x0).aQ x2 (aI l x1).aQ⟩]:=by
     rw[xT];simp only[zh,if_pos kj]
    gi_wp2_with (gi_at_builtin;refine wpListIn_append_own _ rfl _ _ 226 rfl w.heap.size 246 i0 (.agg #[.int .i64 0,.int .i64 0,.int .i64 0]) 3 24 (by kernel_rfl) hi Hr AG lg rfl (by decide) _ _ _ rfl (E7.alloc _) ⟨w3.heap.size,0,none⟩ 1 1 [.int .i64 (x0:Int),.int .i64 (x1:Int),.int .i64 (gT s (aI l x0).aQ x2 (aI l x1).aQ)] rfl rfl (vm _ _ _ _ _) (by simp[Value.oneCell']) (by unfold maxLen;omega) (by omega) (by simp;omega) ?_;intro v' w4 MG E0 _;obtain⟨g',cap',rfl⟩:=ownsRow_succ MG;obtain⟨ym,Oo,Dp,vU,F5⟩:=SH.appended (by decide) E7 hn3 (by omega) MG E0;have Lc:=il.app SH E7 E0 F5;have pZ:=ym.cell;have hf1:=ym.frozen)
    exact⟨hKF.trans (vU.from _),hKT.trans Lc,⟨⟨_,Oo,by rw[xd,HN,List.length_append];exact Dp,by rw[xd];simp⟩,(Lc.2.1 _ _ _ _ Tb (by decide) (by decide)).trans Tb,(Lc.2.1 _ _ _ _ Td (by decide) (by decide)).trans Td⟩,hB.trans ((Bm.mono hB.size).trans F5)⟩
   ·have xd:nJ s l (pre++[⟨(x0,x1,x2),CG,IT,yn⟩])=nJ s l pre:=by
     rw[xT];simp only[zh,if_neg kj,List.append_nil]
    gi_wp2
    exact⟨hKF,hKT,⟨⟨v,SH,by rw[xd];exact E7,by rw[xd];exact hnil⟩,Tb,Td⟩,hB.trans (Bm.mono hB.size)⟩
 case done=>
  rintro D ys W hD Fb ⟨⟨⟨v,hv,fQ,hnil⟩,_⟩,hB⟩ hK
  have hc:=hv.cell
  have Kp:nJ s l ys=cI s l:=by rw[HT,<-Fb];rfl
  rw[Kp]at fQ hnil
  gi_wp2
  refine⟨by simp,.inl ⟨_,_,rfl,run_takeDeferred hK,?_⟩⟩
  exact⟨_,results_tmp rfl _ _ _,v,rfl,ownsRow_putObj fQ _ hK rfl,hnil,hB.trans (belowK_b (w:=w) (Nat.le_refl _) W D _ _ (by omega) hK rfl rfl)⟩
 case stop=>
  rintro D c pre W _ _ h _
  exact h.elim
end Go.Proofs.YtgoelphibofcmaaGreat.V

namespace Go.Proofs.YtgoelphibofcmaaGreat.V
open Go.RowKit Go.Shelf
theorem EE:∀{bs:List PB} {i j:Nat} {b:PB},bs[i]? =some b->j<3->(KK bs)[i*3+j]? =([.int .i64 b.a,.int .i64 b.b,.int .i64 b.s]:List Value)[j]?
 |c::bs,0,j,b,h,hj=>by
  simp at h;subst h
  simp only[KK,List.flatMap_cons,Nat.zero_mul,Nat.zero_add]
  rw[List.getElem?_append_left (by simpa using hj)]
 |c::bs,i+1,j,b,h,hj=>by
  simp only[List.getElem?_cons_succ]at h
  have:=EE (bs:=bs) (i:=i) (j:=j) h hj
  simp only[KK,List.flatMap_cons]at this ⊢
  rw[List.getElem?_append_right (by simp;omega),<-this]
  congr 1
  simp;omega
theorem rG {P:Program} {w:World} {D:Nat->Prop} {rows:List (List AV)} {v:Value} (h:jG P w D (.sl rows) v):∃A n c,v=.slice A n c:=by
 cases h with
 |AH a c _=>exact⟨_,_,_,rfl⟩
 |sl=>exact⟨_,_,_,rfl⟩
theorem qK {P:Program} {w:World} {D:Nat->Prop} {ι:Names} {rows:List (List AV)} {v:Value} (h:cH P w D ι (.sl rows) v):jG P w D (.sl rows) v:=by
 cases h with
 |eL _ _ h=>exact h
theorem LU {P:Program} {w:World} {D:Nat->Prop} {l:List ad} {v:Value} (h:jG P w D (.sl (l.map aa)) v):pJ w v l:=by
 generalize hr:l.map aa=rows at h
 cases h with
 |AH a c hc=>
  have:l=[]:=by simpa using hr
  subst this
  exact⟨a,c,rfl,⟨Nat.zero_le _,hc⟩,.inl rfl⟩
 |sl _ b o n c sz vs h1 h2 h3 h4 h5 h5' h6 h7=>
  have hn:n=l.length:=by rw[<-h1,<-hr];simp
  subst hn
  refine⟨some ⟨b,o,none⟩,c,rfl,⟨h2,h3⟩,?_⟩
  by_cases hl:l=[]
  ·exact .inl hl
  refine .inr ⟨b,o,rfl,fun i hi=>?_⟩
  have hg:rows[i]? =some (aa (aI l i)):=by rw[<-hr];exact fu hi
  have fj:sz=3:=by rw[<-h5 _ (List.mem_of_getElem? hg)];rfl
  subst fj
  have k:∀(j:Nat) (x:Int),(aa (aI l i))[j]? =some (.int .i64 x)->j<3->w.cell? ⟨b,o+(i*3+j),none⟩=some (.int .i64 x):=fun j x hj h3=>by
   have:=h7 i j _ _ hg hj
   rw[h6 i j hi h3,dp (.eL (ι:=fun _=>none) _ _ this)]
  exact⟨k 0 _ rfl (by omega),k 1 _ rfl (by omega),k 2 _ rfl (by omega)⟩
theorem Nk:CI:=by
 intro s l hS hA n
 refine gM ?_
 intro hs D ι w vs S U A
 obtain⟨u0,SF,r0⟩:=A.2 0 _ rfl
 obtain⟨u1,Q2,r1⟩:=A.2 1 _ rfl
 have dQ:∀b,D b->b<w.heap.size:=S.dead
 obtain⟨v0,f0,rfl,Hr,_,Sn,UC⟩:=iP r0
 obtain⟨v1,f1,rfl,AG,_,hf1,Od⟩:=iP r1
 have g0:=qK (UC 0 _ rfl)
 have g1:=qK (UC 1 _ rfl)
 have a0:=qK (Od 0 _ rfl)
 obtain⟨Ag,ng,cg,eg⟩:=rG g0
 obtain⟨At,nt,ct,et⟩:=rG g1
 have e0:v0= #[.slice Ag ng cg,.slice At nt ct]:=by
  obtain⟨vl⟩:=v0
  have q0:=Sn 0 (by simp[ab])
  have q1:=Sn 1 (by simp[ab])
  rw[eg]at q0;rw[et]at q1
  match vl,Hr with
  |[a,b],_=>simp at q0 q1;rw[q0,q1]
 have e1:v1= #[f1 0]:=by
  obtain⟨vl⟩:=v1
  have q0:=hf1 0 (by simp)
  match vl,AG with
  |[a],_=>simp at q0;rw[q0]
 subst e0 e1
 have evs:vs= #[.agg #[.slice Ag ng cg,.slice At nt ct],.agg #[f1 0]]:=by
  obtain⟨vl⟩:=vs
  have hz:=A.1
  match vl,hz with
  |[a,b],_=>simp at SF Q2;rw[SF,Q2]
 subst evs
 have up:∀{a v},jG Tryz.prog w D a v->jG Tryz.prog w (fun b=>b<w.heap.size) a v:=fun h=>h.frame (fun _ _=>rfl) dQ
 have hT:jG Tryz.prog w (fun b=>b<w.heap.size) (.agg (ab s)) (.agg #[.slice Ag ng cg,.slice At nt ct]):=
  .agg _ _ f0 Hr (fun a ha=>by simp[ab]at ha;rcases ha with rfl|rfl<;>rfl) Sn (fun j a ha=>by
   match j,ha with
   |0,ha=>simp[ab]at ha;subst ha;exact up g0
   |1,ha=>simp[ab]at ha;subst ha;exact up g1
   |j+2,ha=>simp[ab]at ha)
 refine(callsIn_wide.1 (HS s l hS.form hA w Ag At ng cg nt ct (f1 0) hT (LU a0))).mono ?_
 rintro e W' ⟨v,rfl,⟨hl,hown⟩,hnil,hB⟩
 have S':gr Tryz.prog hs D ι (fun _=>none) W':=S.stay (fun b hb=>hB.block b hb) hB.size (fun _ h=>h) (fun b hb=>Nat.lt_of_lt_of_le (dQ b hb) hB.size) (fun _ h=>.inl h) (fun _ _ h=>h)
 have T:Step hs D ι w D ι W':=Step.stay S (fun b hb=>hB.block b hb) hB.size hB.os hB.tape hB.output (fun _ h=>h) (fun _ h=>.inl h) (fun _ _ h=>h)
 rcases hown with⟨rfl,h0⟩|⟨gb,cap,cur,rfl,QH,hblk,hle,Io,dt,nQ⟩
 ·have Qq:cI s l=[]:=hnil.1 rfl
  exact⟨.cq,_,n,D,ι,_,rfl,⟨.cq,kJ _ _,by rw[Qq];rfl⟩,T,S',U,Nat.le_refl _,.eL _ _ .cq⟩
 ·have Qq:cI s l≠[]:=fun h=>by have:=hnil.2 h;cases this
  have jB:ι ⟨0,n⟩=none:=fresh U (fun h=>h)
  have gJ:∀{a v},cH Tryz.prog W' D ι a v->cH Tryz.prog W' D (kD ι ⟨0,n⟩ ⟨gb,3,cap*3,none⟩) a v:=fun h=>h.frame (fun _ _=>rfl) (fun _ h=>h) (e6 jB)
  have hR:gL Tryz.prog W' D (kD ι ⟨0,n⟩ ⟨gb,3,cap*3,none⟩) ⟨gb,3,cap*3,none⟩ ⟨true,3,(cI s l).map ay⟩:=by
   refine lv.obj ⟨rfl,⟨cur,_,hblk,dt⟩,?_,fun cs hc=>?_,fun cs hc a ha=>?_,fun i j cs a hi hj=>?_⟩ rfl
   ·simp only[List.length_map];exact Nat.mul_le_mul_right 3 hle
   ·obtain⟨b,_,rfl⟩:=List.mem_map.1 hc;rfl
   ·obtain⟨b,_,rfl⟩:=List.mem_map.1 hc
    simp[ay]at ha
    rcases ha with rfl|rfl|rfl<;>rfl
   ·rw[List.getElem?_map]at hi
    simp only[Option.map_eq_some_iff]at hi
    obtain⟨b,hb,rfl⟩:=hi
    have hj3:j<3:=by have:=(List.getElem?_eq_some_iff.1 hj).1;simpa[ay]using this
    have lD:=(List.getElem?_eq_some_iff.1 hb).1
    have hg:=EE hb hj3
    rw[<-nQ,List.getElem?_take,if_pos (by omega)]at hg
    have key:∀x:Value,([.int .i64 b.a,.int .i64 b.b,.int .i64 b.s]:List Value)[j]? =some x->W'.cell? ⟨gb,i*3+j,none⟩=some x:=fun x hx=>by
     rw[hx]at hg
     have e:W'.cell? ⟨gb,i*3+j,none⟩=cur[i*3+j]? :=by
      unfold World.cell?
      rw[show W'.heap[(⟨gb,i*3+j,none⟩:Addr).block]? = _ from hblk]
      rfl
     rw[e,<-Array.getElem?_toList];exact hg
    match j,hj with
    |0,hj=>simp[ay]at hj;subst hj;exact⟨_,key _ rfl,.eL _ _ (.int _ _)⟩
    |1,hj=>simp[ay]at hj;subst hj;exact⟨_,key _ rfl,.eL _ _ (.int _ _)⟩
    |2,hj=>simp[ay]at hj;subst hj;exact⟨_,key _ rfl,.eL _ _ (.int _ _)⟩
    |j+3,hj=>simp[ay]at hj
  have S2:=gr.add (r:=⟨true,3,(cI s l).map ay⟩) S S' jB QH hR
  refine⟨.own ⟨0,n⟩ 0 (cI s l).length,bz (fun _=>none) ⟨0,n⟩ ⟨true,3,(cI s l).map ay⟩,n+1,D,kD ι ⟨0,n⟩ ⟨gb,3,cap*3,none⟩,_,rfl,⟨Ad (cI s l),?_,rfl⟩,T.trans (Step.stay S' (fun _ _=>rfl) (Nat.le_refl _) rfl rfl rfl (fun _ h=>h) (fun _ h=>.inl h) (e6 jB)),S2,U.upd.next,Nat.le_succ _,.own _ _ _ _ _ _ (dW _ _ _) rfl hle (.inr (by simp)) (by simp) Io⟩
  unfold Ad
  rw[if_neg Qq]
  have hg:(bz (fun _=>none) (⟨0,n⟩:Id) ⟨true,3,(cI s l).map ay⟩:Rows) ⟨0,n⟩=some ⟨true,3,(cI s l).map ay⟩:=by simp[bz]
  have:=fD (n:=5) hg rfl fun b=>uy _ 4 b
  simpa using this
end Go.Proofs.YtgoelphibofcmaaGreat.V

namespace Go.Proofs.YtgoelphibofcmaaGreat.V
open Go.RowKit
attribute [local irreducible] dI wpOps gD Call
attribute [local go_sem] aM fM eP gp gm cN upd cD K.av cR AV.cells AV.cell rowOf rowsOf part ld rowAt bz cu dG ef ik bQ dh eA gj e9 dq ek dd dc dU dV bW bf cW bV cY cX ei eo ej cV ck de eh bU aT da cG ij bx cQ b4 aY dn bc dH AV.undef bF bI eb ee dP dM cJ ez eE cF er ep cZ db List.getD_cons_zero List.getD_cons_succ List.getD_nil List.all_cons List.all_nil Bool.and_true Bool.true_and Bool.and_self Bool.not_true Bool.not_false Option.map_some Option.map_none Option.bind_some Option.bind_none List.length_cons List.length_nil List.take_succ_cons List.take_zero List.take_nil List.drop_succ_cons List.drop_zero List.drop_nil List.head?_cons List.map_cons List.map_nil List.getElem?_cons_zero List.getElem?_cons_succ List.cons_append List.nil_append List.append_nil List.length_map List.set_cons_zero List.set_cons_succ Nat.reduceMul eq_self Int.toNat_natCast Int.natCast_nonneg and_self true_and and_true decide_true decide_false Bool.false_eq_true Nat.zero_add Nat.add_zero List.contains_cons List.contains_nil Bool.or_false Bool.false_or beq_self_eq_true Nat.reduceBEq ne_eq not_true_eq_false not_false_eq_true Id.mk.injEq false_and and_false Nat.reduceLT Int.reduceLE Int.reduceLT Int.reduceToNat Int.reduceNeg Int.reduceAdd Nat.le_refl List.length_append beq_true beq_false Bool.not_eq_eq_eq_not or_false false_or dO ai aj aH bp bE cz aX bl aW bj cU bH
theorem LL (lb:List ad) (hb:jF lb) (t:ad):aq Tryz.prog 168 [.agg (aa t),.di [.sl (lb.map aa)]] (.bool (!decide (gx lb t.aO=t.aQ))):=by
 refine aq.body eB rfl fun hl n0=>?_
 clear hl
 have h:=Ta lb t.aO hb.GP (by have:=hb.rn;omega)
 (repeat(first|((repeat(revert hN;revert N;apply Pn.out));refine wk (tw @aa.eq_1 @ae.eq_1) ?_;(repeat(refine Pn.mk ?_;intro N hN)))|((try apply Or.inl);refine⟨_,aq.x (h) (sd (tw @aa.eq_1 @ae.eq_1)),?_⟩;refine hN _ _ ?_;clear hN N)))
 exact aU (b:= !decide (gx lb t.aO=t.aQ)) (.inl rfl) (sd @Nat.zero_add) (by simp)
theorem CO (la lb:List ad) (ha:jF la) (hb:jF lb):aq Tryz.prog 107 [.agg [.sl (la.map aa)],.agg [.sl (lb.map aa)]] (.bool (iR la lb)):=by
 refine aq.body eB rfl fun hl n0=>?_
 clear hl
 have h1:=sK la
 have h2:=sK lb
 rw[sI.2 ha]at h1
 rw[sI.2 hb]at h2
 have h3:aq Tryz.prog 166 [.sl (la.map aa),.fn 168 [.di [.sl (lb.map aa)]]] (.bool (la.any fun t=> !decide (gx lb t.aO=t.aQ))):=
  kI vw (show l5 Tryz.prog 166=some (zB 166 202) by kernel_rfl)
   (show l5 Tryz.prog 202=some (sS 202 3 true) by kernel_rfl) la (by have:=ha.rn;omega) _ _ _ rfl (fun g=>by rw[ai,aW,aj];rfl) (fun x _=>LL lb hb x) fun g=>by rw[ai,aW,aj];rfl
 (repeat(first|((repeat(revert hN;revert N;apply Pn.out));refine wk @Nat.zero_add ?_;(repeat(refine Pn.mk ?_;intro N hN)))|((try apply Or.inl);refine⟨_,aq.x (h1) (sd @Nat.zero_add),?_⟩;refine hN _ _ ?_;clear hN N)|((try apply Or.inl);refine⟨_,aq.x (h2) (sd @Nat.zero_add),?_⟩;refine hN _ _ ?_;clear hN N)|((try apply Or.inl);refine⟨_,aq.x (h3) (sd @Nat.zero_add),?_⟩;refine hN _ _ ?_;clear hN N)))
 exact aU (b:= !(la.any fun t=> !decide (gx lb t.aO=t.aQ))) (.inl rfl) (sd @Nat.zero_add) (by rw[EC];rfl)
theorem zy (s:aA) (l:List ad) (hn:fV s.aE) (hm:qT s) (hl:l.length<=1048576):aq Tryz.prog 63 [.agg (aw s),.agg [.sl (l.map aa)]] (.int .i64 (if qV s l then 0 else 1)):=by
 refine aq.body eB rfl fun lj n0=>?_
 clear lj
 have h1:=xj Nk s hn hm.s.g hm.s.t hm.s.s hm.a
 have h2:=ny s.aE l hn hm.s.g hm.s.t hm.s.s hl
 cases b1:nq s
 ·rw[b1]at h1
  rw[aw]at h1 ⊢
  (repeat(first|((repeat(revert hN;revert N;apply Pn.out));refine wk @Nat.zero_add ?_;(repeat(refine Pn.mk ?_;intro N hN)))|((try apply Or.inl);refine⟨_,aq.x (h1) (sd @Nat.zero_add),?_⟩;refine hN _ _ ?_;clear hN N)))
  exact cj (b:=1) (.inl rfl) (sd @Nat.zero_add) (by simp[qV,b1])
 have eC:qL s.aE=true:=mz.2 (wV.1 b1).set
 rw[b1]at h1
 rw[eC,Bool.true_and]at h2
 rw[aw]at h1 ⊢
 rw[ab]at h2
 cases b2:pK s.aE l
 ·rw[b2]at h2
  (repeat(first|((repeat(revert hN;revert N;apply Pn.out));refine wk @Nat.zero_add ?_;(repeat(refine Pn.mk ?_;intro N hN)))|((try apply Or.inl);refine⟨_,aq.x (h1) (sd @Nat.zero_add),?_⟩;refine hN _ _ ?_;clear hN N)|((try apply Or.inl);refine⟨_,aq.x (h2) (sd @Nat.zero_add),?_⟩;refine hN _ _ ?_;clear hN N)))
  exact cj (b:=1) (.inl rfl) (sd @Nat.zero_add) (by simp[qV,b1,b2])
 ·rw[b2]at h2
  (repeat(first|((repeat(revert hN;revert N;apply Pn.out));refine wk @Nat.zero_add ?_;(repeat(refine Pn.mk ?_;intro N hN)))|((try apply Or.inl);refine⟨_,aq.x (h1) (sd @Nat.zero_add),?_⟩;refine hN _ _ ?_;clear hN N)|((try apply Or.inl);refine⟨_,aq.x (h2) (sd @Nat.zero_add),?_⟩;refine hN _ _ ?_;clear hN N)))
  exact cj (b:=0) (.inl rfl) (sd @Nat.zero_add) (by simp[qV,b1,b2])
theorem zI (s:aA) (l:List ad) (hn:fV s.aE) (hm:qT s) (hl:l.length<=1048576):aq Tryz.prog 69 [.agg (aw s),.agg [.sl (l.map aa)]] (.int .i64 (je s l)):=by
 refine aq.body eB rfl fun lj n0=>?_
 clear lj
 have h1:=zy s l hn hm hl
 cases b:qV s l
 ·rw[b]at h1
  rw[aw]at h1 ⊢
  (repeat(first|((repeat(revert hN;revert N;apply Pn.out));refine wk @Nat.zero_add ?_;(repeat(refine Pn.mk ?_;intro N hN)))|((try apply Or.inl);refine⟨_,aq.x (h1) (sd @Nat.zero_add),?_⟩;refine hN _ _ ?_;clear hN N)))
  exact cj (b:=1) (.inl rfl) (sd @Nat.zero_add) (by simp[je,b])
 obtain⟨hP,hA⟩:=qW.1 b
 have h2:=CO s.aZ.ah l hP.z8.1 hA.1
 rw[b]at h1
 rw[aw]at h1 ⊢
 cases b2:iR s.aZ.ah l
 ·rw[b2]at h2
  (repeat(first|((repeat(revert hN;revert N;apply Pn.out));refine wk @Nat.zero_add ?_;(repeat(refine Pn.mk ?_;intro N hN)))|((try apply Or.inl);refine⟨_,aq.x (h1) (sd @Nat.zero_add),?_⟩;refine hN _ _ ?_;clear hN N)|((try apply Or.inl);refine⟨_,aq.x (h2) (sd @Nat.zero_add),?_⟩;refine hN _ _ ?_;clear hN N)))
  exact cj (b:=2) (.inl rfl) (sd @Nat.zero_add) (by simp[je,b,b2])
 ·rw[b2]at h2
  (repeat(first|((repeat(revert hN;revert N;apply Pn.out));refine wk @Nat.zero_add ?_;(repeat(refine Pn.mk ?_;intro N hN)))|((try apply Or.inl);refine⟨_,aq.x (h1) (sd @Nat.zero_add),?_⟩;refine hN _ _ ?_;clear hN N)|((try apply Or.inl);refine⟨_,aq.x (h2) (sd @Nat.zero_add),?_⟩;refine hN _ _ ?_;clear hN N)))
  exact cj (b:=0) (.inl rfl) (sd @Nat.zero_add) (by simp[je,b,b2])
end Go.Proofs.YtgoelphibofcmaaGreat.V

namespace Go.Proofs.YtgoelphibofcmaaGreat.V
open Go.RowKit
attribute [local irreducible] dI wpOps gD Call
attribute [local go_sem] aM fM eP gp gm cN upd cD K.av cR AV.cells AV.cell rowOf rowsOf part ld rowAt bz cu dG ef ik bQ dh eA gj e9 dq ek dd dc dU dV bW bf cW bV cY cX ei eo ej cV ck de eh bU aT da cG ij bx cQ b4 aY dn bc dH AV.undef bF bI eb ee dP dM cJ ez eE cF er ep cZ db List.getD_cons_zero List.getD_cons_succ List.getD_nil List.all_cons List.all_nil Bool.and_true Bool.true_and Bool.and_self Bool.not_true Bool.not_false Option.map_some Option.map_none Option.bind_some Option.bind_none List.length_cons List.length_nil List.take_succ_cons List.take_zero List.take_nil List.drop_succ_cons List.drop_zero List.drop_nil List.head?_cons List.map_cons List.map_nil List.getElem?_cons_zero List.getElem?_cons_succ List.cons_append List.nil_append List.append_nil List.length_map List.set_cons_zero List.set_cons_succ Nat.reduceMul eq_self Int.toNat_natCast Int.natCast_nonneg and_self true_and and_true decide_true decide_false Bool.false_eq_true Nat.zero_add Nat.add_zero List.contains_cons List.contains_nil Bool.or_false Bool.false_or beq_self_eq_true Nat.reduceBEq ne_eq not_true_eq_false not_false_eq_true Id.mk.injEq false_and and_false Nat.reduceLT Int.reduceLE Int.reduceLT Int.reduceToNat Int.reduceNeg Int.reduceAdd Nat.le_refl List.length_append beq_true beq_false Bool.not_eq_eq_eq_not or_false false_or dO ai aj aH bp bE cz aX bl aW bj cU bH
noncomputable def nj (s:aA) (l:List ad):List ad×Int:=if je s l=0 then(if (iW s l).2.length=l.length then((iW s l).1,0)else([],3))else([],je s l)
theorem BF {s:aA} {l:List ad} (hA:jl s.aE l):∀(n:Nat) (st:iS),n9 s l st->n9 s l (v7 s l n st)
 |0,st,h=>h
 |n+1,st,h=>by
  have h1:=(w6 h hA l.length (Nat.le_refl _)).1
  rw[pg]at h1
  rw[v7]
  split
  ·exact h1
  ·exact BF hA n _ h1
theorem BE {s:aA} {l:List ad} (hP:uW s) (hA:jl s.aE l) (hW:iR s.aZ.ah l=true):n9 s l (iW s l):=BF hA _ _ (sV hP hA hW)
theorem y9 (s:aA) (l:List ad) (hn:fV s.aE) (hg:s.aE.ax.length<=1048576) (ht:s.aE.ah.length<=1048576):∃w,ma aa (nj s l).1 w/\kd Tryz.prog 46 [.agg (aw s),.agg [.sl (l.map aa)]] (.gK [w,.int .i64 (nj s l).2]):=by
 have h1:=Gt s l hn hg ht
 by_cases h0:je s l=0
 ·obtain⟨hP,hA,hW⟩:=s6.1 h0
  have h2:=BQ s hP l hA hW
  rw[h0]at h1
  by_cases he:(iW s l).2.length=l.length
  ·have hr:nj s l=((iW s l).1,0):=by rw[nj,if_pos h0,if_pos he]
   rw[hr]
   refine⟨_,.inr rfl,?_⟩
   refine kd.body eB rfl fun lj σ=>?_
   clear lj
   generalize (iW s l).1=L at h2 ⊢
   have EY:decide (((iW s l).2.length:Int)=(l.length:Int))=true:=decide_eq_true (by omega)
   rw[aw]at h1 h2 ⊢
   (repeat(first|((repeat(revert hN;revert N;apply Pn.out));refine wk @EY ?_;(repeat(refine Pn.mk ?_;intro N hN)))|((try apply Or.inl);refine⟨_,aq.x (h1) (sd @EY),?_⟩;refine hN _ _ ?_;clear hN N)|((try apply Or.inl);refine⟨_,aq.x (h2) (sd @EY),?_⟩;refine hN _ _ ?_;clear hN N)))
   exact xI (.inl rfl) (vs:=[.sl (L.map aa),.int .i64 0]) (sd @Nat.zero_add) (by simp only[fe,bH,ai,aj,cz,aH,Option.map_some])
  ·have hr:nj s l=([],3):=by rw[nj,if_pos h0,if_neg he]
   rw[hr]
   refine⟨.cq,.inl ⟨rfl,rfl⟩,?_⟩
   refine kd.body eB rfl fun lj σ=>?_
   clear lj
   generalize (iW s l).1=L at h2
   have EY:decide (((iW s l).2.length:Int)=(l.length:Int))=false:=decide_eq_false (by omega)
   rw[aw]at h1 h2 ⊢
   (repeat(first|((repeat(revert hN;revert N;apply Pn.out));refine wk @EY ?_;(repeat(refine Pn.mk ?_;intro N hN)))|((try apply Or.inl);refine⟨_,aq.x (h1) (sd @EY),?_⟩;refine hN _ _ ?_;clear hN N)|((try apply Or.inl);refine⟨_,aq.x (h2) (sd @EY),?_⟩;refine hN _ _ ?_;clear hN N)))
   exact xI (.inl rfl) (vs:=[.cq,.int .i64 3]) (sd @Nat.zero_add) (by simp only[fe,bH,ai,aj,aX,aH,Option.map_some])
 ·have hr:nj s l=([],je s l):=by rw[nj,if_neg h0]
  rw[hr]
  refine⟨.cq,.inl ⟨rfl,rfl⟩,?_⟩
  refine kd.body eB rfl fun lj σ=>?_
  clear lj
  have hd:decide (je s l=0)=false:=decide_eq_false h0
  rw[aw]at h1 ⊢
  (repeat(first|((repeat(revert hN;revert N;apply Pn.out));refine wk @hd ?_;(repeat(refine Pn.mk ?_;intro N hN)))|((try apply Or.inl);refine⟨_,aq.x (h1) (sd @hd),?_⟩;refine hN _ _ ?_;clear hN N)))
  exact xI (.inl rfl) (vs:=[.cq,.int .i64 (je s l)]) (sd @Nat.zero_add) (by simp only[fe,bH,ai,aj,aX,aH,Option.map_some])
theorem y8 (s:aA) (l:List ad) (hn:fV s.aE) (hm:qT s) (hl:l.length<=1048576):uS Tryz.prog 47 [.agg (aw s),.agg [.sl (l.map aa)]] aa 3 (nj s l).1 (nj s l).2:=by
 intro n0
 have h1:=zI s l hn hm hl
 by_cases h0:je s l=0
 ·obtain⟨hP,hA,hW⟩:=s6.1 h0
  have hc:=fun σ=>IV s hP l hA hW σ
  have Sp:=(BE hP hA hW).rn
  rw[h0]at h1
  by_cases he:(iW s l).2.length=l.length
  ·have hr:nj s l=((iW s l).1,0):=by rw[nj,if_pos h0,if_pos he]
   rw[hr]
   refine eT eB rfl fun lj=>?_
   clear lj
   rw[aw]at h1 hc ⊢
   (repeat(first|((repeat(revert hN;revert N;apply Pn.out));refine wk @Nat.zero_add ?_;(repeat(refine Pn.mk ?_;intro N hN)))|((try apply Or.inl);refine⟨_,aq.x (h1) (sd @Nat.zero_add),?_⟩;refine hN _ _ ?_;clear hN N)))
   refine .inr (aJ _ _ _ _ _ (fun r σ1 hq=>?_) (hc _))
   obtain⟨g1,x1⟩:=σ1
   obtain⟨v,o,rfl,hv,ho,Up,Uq,jB⟩:=hq
   (try dsimp only at hv ho Up Uq jB)
   have k3:=jB ⟨47000001,n0⟩ (by(try dsimp only);omega)
   simp only[go_sem, ↓reduceIte,Nat.reduceEqDiff,Nat.reduceAdd,Nat.reduceSub,Nat.reduceLeDiff,reduceCtorEq]at k3
   have EY:¬((iW s l).2.length:Int)<(l.length:Int):=by omega
   refine hN _ _ ?_
   clear hN N
   (try((repeat(revert hN;revert N;apply Pn.out));refine wk (tw @k3 @EY) ?_;(repeat(refine Pn.mk ?_;intro N hN))))
   refine fw (.inl rfl) (vs:=[v,.int .i64 0]) (sd @Nat.zero_add) ?_
   rcases hv with⟨h2,rfl⟩|⟨u,rfl,h3,h4,h5,h6,h7⟩
   ·exact⟨_,[],rfl,.inl ⟨h2,rfl,rfl⟩,⟨List.nodup_nil,fun i hi=>by cases hi⟩⟩
   ·have vu:=dw h5
    exact⟨_,[u],rfl,.inr ⟨u,rfl,sd (tw @vu @h3),rfl,h7⟩,⟨List.nodup_cons.2 ⟨by simp,List.nodup_nil⟩,fun i hi=>by rw[List.mem_singleton.1 hi];(try dsimp only);omega⟩⟩
  ·have hr:nj s l=([],3):=by rw[nj,if_pos h0,if_neg he]
   rw[hr]
   refine eT eB rfl fun lj=>?_
   clear lj
   rw[aw]at h1 hc ⊢
   (repeat(first|((repeat(revert hN;revert N;apply Pn.out));refine wk @Nat.zero_add ?_;(repeat(refine Pn.mk ?_;intro N hN)))|((try apply Or.inl);refine⟨_,aq.x (h1) (sd @Nat.zero_add),?_⟩;refine hN _ _ ?_;clear hN N)))
   refine .inr (aJ _ _ _ _ _ (fun r σ1 hq=>?_) (hc _))
   obtain⟨g1,x1⟩:=σ1
   obtain⟨v,o,rfl,hv,ho,Up,Uq,jB⟩:=hq
   (try dsimp only at hv ho Up Uq jB)
   have k3:=jB ⟨47000001,n0⟩ (by(try dsimp only);omega)
   simp only[go_sem, ↓reduceIte,Nat.reduceEqDiff,Nat.reduceAdd,Nat.reduceSub,Nat.reduceLeDiff,reduceCtorEq]at k3
   have EY:((iW s l).2.length:Int)<(l.length:Int):=by omega
   refine hN _ _ ?_
   clear hN N
   (try((repeat(revert hN;revert N;apply Pn.out));refine wk (tw @k3 @EY) ?_;(repeat(refine Pn.mk ?_;intro N hN))))
   exact fw (.inl rfl) (vs:=[.cq,.int .i64 3]) (sd @Nat.zero_add) ⟨.cq,[],rfl,.inl ⟨rfl,rfl,rfl⟩,⟨List.nodup_nil,fun i hi=>by cases hi⟩⟩
 ·have hd:decide (je s l=0)=false:=decide_eq_false h0
  have hr:nj s l=([],je s l):=by rw[nj,if_neg h0]
  rw[hr]
  refine eT eB rfl fun lj=>?_
  clear lj
  rw[aw]at h1 ⊢
  (repeat(first|((repeat(revert hN;revert N;apply Pn.out));refine wk @hd ?_;(repeat(refine Pn.mk ?_;intro N hN)))|((try apply Or.inl);refine⟨_,aq.x (h1) (sd @hd),?_⟩;refine hN _ _ ?_;clear hN N)))
  exact fw (.inl rfl) (vs:=[.cq,.int .i64 (je s l)]) (sd @Nat.zero_add) ⟨.cq,[],rfl,.inl ⟨rfl,rfl,rfl⟩,⟨List.nodup_nil,fun i hi=>by cases hi⟩⟩
end Go.Proofs.YtgoelphibofcmaaGreat.V

namespace Go.Proofs.YtgoelphibofcmaaGreat
open Go.ChangeShapes Go.WideShapes Go.ChangeAt Go.RowKit Go.Deep
section
variable {H:Type} {enc:TypeId×Value->H} {P:Program} {w:World}
theorem mN.Rl {α:Type} {rep:World->List Nat->List Value->α->Prop} {sz:Nat} {w:World} {b o len cap:Nat} (ox:Nat->List Value) (fs:Nat->List Nat) (ds:Nat->α) (hc:len<=cap) (hm:cap<=maxLen)
  (hl:∀i,i<len->(ox i).length=sz) (hr:∀i,i<len->rep w (fs i) (ox i) (ds i)) (EV:∀i,i<len->∀j u,(ox i)[j]? =some u->w.cell? ⟨b,o+(i*sz+j),none⟩=some u):
  mN rep sz w ([b]++((List.range len).map fs).flatten) (.slice (some ⟨b,o,none⟩) len cap) ((List.range len).map ds):=by
 refine⟨(List.range len).map ox,(List.range len).map fs,[b],rfl,⟨some ⟨b,o,none⟩,cap,by simp,by simpa using hc,hm,.inr ⟨b,o,rfl,rfl,fun j u hj=>?_⟩⟩,by simp,by simp,fun i cs f d h1 h2 h3=>?_⟩
 ·have hlen:∀cs∈(List.range len).map ox,cs.length=sz:=fun cs dt=>by
   obtain⟨i,hi,rfl⟩:=List.mem_map.1 dt
   exact hl i (List.mem_range.1 hi)
  have gZ:=(List.getElem?_eq_some_iff.1 hj).1
  have K5:((List.range len).map ox).flatten.length=len*sz:=by
   rw[List.length_flatten,List.map_map]
   have:∀(l:List Nat),(∀i∈l,i<len)->(l.map (List.length∘ox)).sum=l.length*sz:=by
    intro l
    induction l with
    |nil=>intro _;simp
    |cons a l ih=>intro h;rw[List.map_cons,List.sum_cons,ih fun i hi=>h i (List.mem_cons_of_mem _ hi)];simp only[Function.comp,hl a (h a (by simp)),List.length_cons,Nat.add_mul];omega
   rw[this _ fun i hi=>List.mem_range.1 hi,List.length_range]
  rw[K5]at gZ
  have Dr:0<sz:=by
   rcases Nat.eq_zero_or_pos sz with h|h
   ·subst h;simp at gZ
   ·exact h
  have hi:j / sz<len:=(Nat.div_lt_iff_lt_mul Dr).2 gZ
  have Hm:j % sz<sz:=Nat.mod_lt _ Dr
  have K9:j=(j / sz)*sz+j % sz:=by rw[Nat.mul_comm];exact(Nat.div_add_mod j sz).symm
  rw[K9,tC hlen (i:=j / sz) (cs:=ox (j / sz)) (by simp[hi]) Hm]at hj
  rw[K9]
  have:=EV (j / sz) hi (j % sz) u hj
  rw[<-K9]at this ⊢
  exact this
 ·have hi:i<len:=by
   have:=(List.getElem?_eq_some_iff.1 h1).1
   simpa using this
  simp[hi]at h1 h2 h3
  subst h1 h2 h3
  exact⟨hr i hi,hl i hi⟩
theorem ke (b o k:Nat):(⟨b,o,none⟩:Addr).add k=⟨b,o+k,none⟩:=by
 unfold Addr.add;split
 ·rename_i h;subst h;rfl
 ·rfl
theorem pI {α:Type} {rep:World->List Nat->List Value->α->Prop} {Q:α->Prop} {t e:TypeId} {sz fuel:Nat} {cs:List Value} {x:DataW H×List MemPlace} (ht:P.underlying t=some (.slice e)) (hC:P.cellsOf e=sz) (Dr:0<sz)
  (h:DataW.trod enc P w 0 (fun _=>true) true fuel t cs=some x) (hel:∀n pV y,pV.length=sz->DataW.trod enc P w 0 (fun _=>true) true n e pV=some y->∃f d,fG f 0 w.heap.size/\rep w f pV d/\Q d):
  ∃A n c f xs,cs=[.slice A n c]/\fG f 0 w.heap.size/\mN rep sz w f (.slice A n c) xs/\∀d∈xs,Q d:=by
 rcases open_slice ht h with⟨rfl,_⟩|⟨a,len,cap,m,n,D,Pl,rfl,_,hl,hm,N5,_,hi⟩
 ·exact⟨none,0,0,[],[],rfl,fG.nil _ _,mN.nil _ _ _,fun d h=>by cases h⟩
 rw[hC]at hi
 simp only[if_true]at N5
 by_cases h0:len=0
 ·subst h0
  exact⟨some a,0,cap,[],[],rfl,fG.nil _ _,⟨[],[],[],rfl,⟨some a,cap,rfl,Nat.zero_le _,hm,.inl ⟨rfl,rfl⟩⟩,rfl,rfl,fun i cs f d hc=>by simp at hc⟩,fun d h=>by cases h⟩
 obtain⟨b,o,sp⟩:=a
 have cell0:∃v,w.cell? ⟨b,o,sp⟩=some v:=by
  obtain⟨pV,hc,_⟩:=hi 0 (by omega)
  obtain⟨_,mU,EV⟩:=World.cells?_some hc
  refine⟨pV[0]'(by omega),?_⟩
  have:=EV 0 Dr
  rw[List.getElem?_eq_getElem (by omega)]at this
  simpa[Addr.add]using this
 obtain⟨v0,so⟩:=cell0
 have hb:b<w.heap.size:=World.block_lt_of_cell? w _ so
 have Oh:sp=none:=by
  unfold World.cell? at so
  split at so
  ·split at so
   ·cases so
   ·rename_i h;simpa using h
  ·cases so
 subst Oh
 have key:∀i,i<len->∃pV f d,pV.length=sz/\fG f 0 w.heap.size/\rep w f pV d/\Q d/\∀j u,pV[j]? =some u->w.cell? ⟨b,o+(i*sz+j),none⟩=some u:=fun i lD=>by
  obtain⟨pV,hc,htr⟩:=hi i (by omega)
  obtain⟨_,mU,EV⟩:=World.cells?_some hc
  obtain⟨f,d,h1,h2,h3⟩:=hel n pV _ mU htr
  refine⟨pV,f,d,mU,h1,h2,h3,fun j u hj=>?_⟩
  have gZ:=(List.getElem?_eq_some_iff.1 hj).1
  have:=EV j (by omega)
  rw[hj]at this
  rw[<-this,Go.Deep.add_add,ke]
 have:Nonempty α:=by
  obtain⟨_,_,d,_⟩:=key 0 (by omega)
  exact⟨d⟩
 let cf:Nat->List Value:=fun i=>if hi:i<len then(key i hi).choose else[]
 let ff:Nat->List Nat:=fun i=>if hi:i<len then(key i hi).choose_spec.choose else[]
 let df:Nat->α:=fun i=>if hi:i<len then(key i hi).choose_spec.choose_spec.choose else Classical.choice this
 have dF:∀i,i<len->(cf i).length=sz/\fG (ff i) 0 w.heap.size/\rep w (ff i) (cf i) (df i)/\Q (df i)/\∀j u,(cf i)[j]? =some u->w.cell? ⟨b,o+(i*sz+j),none⟩=some u:=fun i hi=>by
  have:=(key i hi).choose_spec.choose_spec.choose_spec
  simp only[cf,ff,df,dif_pos hi]
  exact this
 refine⟨some ⟨b,o,none⟩,len,cap,_,(List.range len).map df,rfl,?_,mN.Rl cf ff df hl hm (fun i hi=>(dF i hi).1) (fun i hi=>(dF i hi).2.2.1) (fun i hi=>(dF i hi).2.2.2.2),fun d hd=>?_⟩
 ·intro x hx
  rcases List.mem_append.1 hx with hx|hx
  ·simp at hx;subst hx;exact⟨Nat.zero_le _,hb⟩
  ·obtain⟨l,Ld,PO⟩:=List.mem_flatten.1 hx
   obtain⟨i,hi,rfl⟩:=List.mem_map.1 Ld
   exact(dF i (List.mem_range.1 hi)).2.1 x PO
 ·obtain⟨i,hi,rfl⟩:=List.mem_map.1 hd
  exact(dF i (List.mem_range.1 hi)).2.2.2.1
end
section
variable {H:Type} {enc:TypeId×Value->H} {w:World} {fuel:Nat} {cs:List Value} {x:DataW H×List MemPlace}
abbrev TT (enc:TypeId×Value->H) (w:World) (fuel t:Nat) (cs:List Value) (x:DataW H×List MemPlace):Prop:=DataW.trod enc Tryz.prog w 0 (fun _=>true) true fuel t cs=some x
theorem OD (h:TT enc w fuel 56 cs x):∃A n c f xs,cs=[.slice A n c]/\fG f 0 w.heap.size/\uV w f (.slice A n c) xs:=by
 obtain⟨A,n,c,f,xs,h1,h2,h3,_⟩:=pI (rep:=EB) (Q:=fun _=>True) Tryz.underlying56 (sz:=1) (by kernel_rfl) (by omega) h fun n pV y hl hy=>by
  obtain⟨b,rfl,_⟩:=DataW.trod_int Tryz.underlying2 hy
  exact⟨[],b,fG.nil _ _,⟨rfl,rfl⟩,trivial⟩
 exact⟨A,n,c,f,xs,h1,h2,h3⟩
theorem nh {t:TypeId} {fs:Array Field} (ht:Tryz.prog.underlying t=some (.struct fs)) (h:TT enc w fuel t cs x):cs.length=Tryz.prog.cellsOf t/\∃n,∀(i:Nat) (f:Field),fs[i]? =some f->∃y,TT enc w n f.type ((cs.drop f.offset).take (Tryz.prog.cellsOf f.type)) y:=by
 obtain⟨xs,n,_,_,hl,PO,hf⟩:=DataW.trod_struct ht h
 refine⟨hl,n,fun i f hi=>?_⟩
 have lD:i<xs.length:=by rw[PO];exact(Array.getElem?_eq_some_iff.1 hi).1
 exact⟨xs[i],(hf i f hi).trans (List.getElem?_eq_getElem lD)⟩
theorem Rh {l:List Value} (h:l.length=2):∃a b,l=[a,b]:=by
 match l,h with
 |[a,b],_=>exact⟨a,b,rfl⟩
theorem UP {l:List Value} (h:l.length=3):∃a b c,l=[a,b,c]:=by
 match l,h with
 |[a,b,c],_=>exact⟨a,b,c,rfl⟩
theorem UO {l:List Value} (h:l.length=1):∃a,l=[a]:=by
 match l,h with
 |[a],_=>exact⟨a,rfl⟩
theorem UQ {l:List Value} (h:l.length=4):∃a b c d,l=[a,b,c,d]:=by
 match l,h with
 |[a,b,c,d],_=>exact⟨a,b,c,d,rfl⟩
theorem LM (h:TT enc w fuel 22 cs x):∃A n c f xs,cs=[.slice A n c]/\fG f 0 w.heap.size/\qR w f (.slice A n c) xs/\∀d∈xs,d.aC.size<=9223372036854775807:=by
 exact pI (rep:=HB) (Q:=fun d=>d.aC.size<=9223372036854775807) Tryz.underlying22 (sz:=2) (by kernel_rfl) (by omega) h fun n pV y hl hy=>by
  obtain⟨_,m,hf⟩:=nh Tryz.underlying191 hy
  obtain⟨a,b,rfl⟩:=Rh hl
  ·skip
   obtain⟨y0,h0⟩:=hf 0 _ rfl
   obtain⟨y1,h1⟩:=hf 1 _ rfl
   rw[show Tryz.prog.cellsOf _=1 from by kernel_rfl]at h0 h1
   obtain⟨p,e0,_,ws⟩:=DataW.trod_string Tryz.underlying9 h0
   obtain⟨q,e1,_⟩:=DataW.trod_int Tryz.underlying2 h1
   simp at e0 e1
   subst e0 e1
   exact⟨[],⟨p,q⟩,fG.nil _ _,⟨rfl,rfl⟩,by simpa[maxLen]using ws⟩
theorem LN (h:TT enc w fuel 23 cs x):∃A n c f xs,cs=[.slice A n c]/\fG f 0 w.heap.size/\qS w f (.slice A n c) xs/\∀d∈xs,d.aC.size<=9223372036854775807:=by
 exact pI (rep:=HC) (Q:=fun d=>d.aC.size<=9223372036854775807) Tryz.underlying23 (sz:=2) (by kernel_rfl) (by omega) h fun n pV y hl hy=>by
  obtain⟨_,m,hf⟩:=nh Tryz.underlying193 hy
  obtain⟨a,b,rfl⟩:=Rh hl
  ·skip
   obtain⟨y0,h0⟩:=hf 0 _ rfl
   obtain⟨y1,h1⟩:=hf 1 _ rfl
   rw[show Tryz.prog.cellsOf _=1 from by kernel_rfl]at h0 h1
   obtain⟨p,e0,_,ws⟩:=DataW.trod_string Tryz.underlying9 h0
   obtain⟨A1,n1,c1,f1,RE,e1,k1,s1⟩:=OD h1
   simp at e0 e1
   subst e0 e1
   exact⟨_,⟨p,RE⟩,k1,⟨_,f1,rfl,rfl,s1⟩,by simpa[maxLen]using ws⟩
theorem GF (h:TT enc w fuel 26 cs x):∃A n c f xs,cs=[.slice A n c]/\fG f 0 w.heap.size/\jb w f (.slice A n c) xs:=by
 obtain⟨A,n,c,f,xs,h1,h2,h3,_⟩:=pI (rep:=AK) (Q:=fun _=>True) Tryz.underlying26 (sz:=3) (by kernel_rfl) (by omega) h fun n pV y hl hy=>by
  obtain⟨_,m,hf⟩:=nh Tryz.underlying143 hy
  obtain⟨a,b,c,rfl⟩:=UP hl
  ·skip
   obtain⟨y0,h0⟩:=hf 0 _ rfl
   obtain⟨y1,h1⟩:=hf 1 _ rfl
   rw[show Tryz.prog.cellsOf _=2 from by kernel_rfl]at h0
   rw[show Tryz.prog.cellsOf _=1 from by kernel_rfl]at h1
   obtain⟨_,m2,Ks⟩:=nh Tryz.underlying66 h0
   obtain⟨z0,g0⟩:=Ks 0 _ rfl
   obtain⟨z1,g1⟩:=Ks 1 _ rfl
   rw[show Tryz.prog.cellsOf _=1 from by kernel_rfl]at g0 g1
   obtain⟨px,e0,_⟩:=DataW.trod_int Tryz.underlying2 g0
   obtain⟨py,e1,_⟩:=DataW.trod_int Tryz.underlying2 g1
   obtain⟨ti,e2,_⟩:=DataW.trod_int Tryz.underlying2 h1
   simp at e0 e1 e2
   subst e0 e1 e2
   exact⟨[],⟨⟨px,py⟩,ti⟩,fG.nil _ _,⟨rfl,rfl⟩,trivial⟩
 exact⟨A,n,c,f,xs,h1,h2,h3⟩
theorem wu (h:TT enc w fuel 28 cs x):∃A n c f,∃d:dL,cs=[.slice A n c]/\fG f 0 w.heap.size/\jb w f (.slice A n c) d.ah:=by
 obtain⟨hl,m,hf⟩:=nh Tryz.underlying28 h
 rw[show Tryz.prog.cellsOf _=1 from by kernel_rfl]at hl
 obtain⟨a,rfl⟩:=UO hl
 ·skip
  obtain⟨y0,h0⟩:=hf 0 _ rfl
  rw[show Tryz.prog.cellsOf _=1 from by kernel_rfl]at h0
  obtain⟨A1,n1,c1,f1,RE,e1,k1,s1⟩:=GF h0
  simp at e1
  subst e1
  exact⟨A1,n1,c1,f1,⟨RE⟩,rfl,k1,s1⟩
theorem Jj (h:TT enc w fuel 30 cs x):∃A0 n0 c0 f0 A1 n1 c1 f1 A2 n2 c2 f2,∃d:aA,cs=[.slice A0 n0 c0,.slice A1 n1 c1,.slice A2 n2 c2,.int .i64 d.aB]/\fG f0 0 w.heap.size/\qR w f0 (.slice A0 n0 c0) d.aE.ax/\fG f1 0 w.heap.size/\qS w f1 (.slice A1 n1 c1) d.aE.ah/\fG f2 0 w.heap.size/\jb w f2 (.slice A2 n2 c2) d.aZ.ah/\(∀g∈d.aE.ax,g.aC.size<=9223372036854775807)/\∀t∈d.aE.ah,t.aC.size<=9223372036854775807:=by
 obtain⟨hl,m,hf⟩:=nh Tryz.underlying30 h
 rw[show Tryz.prog.cellsOf _=4 from by kernel_rfl]at hl
 obtain⟨a,b,c,d,rfl⟩:=UQ hl
 ·skip
  obtain⟨y0,h0⟩:=hf 0 _ rfl
  obtain⟨y1,h1⟩:=hf 1 _ rfl
  obtain⟨y2,h2⟩:=hf 2 _ rfl
  rw[show Tryz.prog.cellsOf _=2 from by kernel_rfl]at h0
  rw[show Tryz.prog.cellsOf _=1 from by kernel_rfl]at h1 h2
  obtain⟨_,m2,Ks⟩:=nh Tryz.underlying25 h0
  obtain⟨z0,g0⟩:=Ks 0 _ rfl
  obtain⟨z1,g1⟩:=Ks 1 _ rfl
  rw[show Tryz.prog.cellsOf _=1 from by kernel_rfl]at g0 g1
  obtain⟨A0,n0,c0,f0,xs0,e0,k0,s0,o0⟩:=LM g0
  obtain⟨A1,n1,c1,f1,RE,e1,k1,s1,o1⟩:=LN g1
  obtain⟨A2,n2,c2,f2,d2,e2,k2,s2⟩:=wu h1
  obtain⟨t,e3,_⟩:=DataW.trod_int Tryz.underlying2 h2
  simp at e0 e1 e2 e3
  subst e0 e1 e2 e3
  exact⟨A0,n0,c0,f0,A1,n1,c1,f1,A2,n2,c2,f2,⟨⟨xs0,RE⟩,d2,t⟩,rfl,k0,s0,k1,s1,k2,s2,o0,o1⟩
end
end Go.Proofs.YtgoelphibofcmaaGreat

namespace Go.Proofs.YtgoelphibofcmaaGreat
open Go.ChangeShapes Go.WideShapes Go.ChangeAt Go.RowKit V
theorem Rp:ownKnob Tryz.prog.godebug=none:=by kernel_rfl
theorem I5:laidOutB Tryz.prog=true:=by kernel_rfl
theorem JJ {s:aA} {l:List ad} (hl:l.length<=1048576):(nj s l).1.length<=1152921504606846976:=by
 unfold nj
 split
 ·rename_i h0
  obtain⟨hP,hA,hW⟩:=s6.1 h0
  have h:=BE hP hA hW
  have h1:=h.rn
  have h2:=h.len
  split
  ·dsimp only;omega
  ·simp
 ·simp
theorem L3 (s:aA) (a:dL) (hn:fV s.aE):aq Tryz.prog 10 [.agg (aw s),.agg (aP a)] (.bool true):=
 Lz (fun s a=>nj s a.ah) (fun s a hn hm _=>y9 s a.ah hn hm.s.g hm.s.t) (fun s a hn hm hl=>y8 s a.ah hn hm hl) (fun s a hm hl=>JJ hl) s a hn
theorem D7 (os:Os) (started:os.Started) (H:Type) (enc:TypeId×Value->H):
  ReturnsInHanded {} Tryz.checked os 10 .any (Rows.fnExactSequenceOfSpec.pre6 enc Tryz.prog Tryz.f10 Rows.fnExactSequenceOfRow.domain false) (Rows.fnExactSequenceOfSpec.post enc Tryz.prog Tryz.f10 false true false false):=by
 refine returnsInHanded_of_change (C:=Tryz.checked) Rp started (by kernel_rfl) Tryz.func10
  (ChangeSpec.witness6 (enc:=enc) (C:=Tryz.checked) false ⟨#[], #[.agg #[.slice none 0 0,.slice none 0 0,.slice none 0 0,.int .i64 0],.agg #[.slice none 0 0]],[]⟩ 8 (by kernel_rfl) (by kernel_rfl) (by kernel_rfl) (by kernel_rfl)) ?_
 intro W base args ds gs before MN hW hcnd _
 have sR:∀(j:Nat) t v,Tryz.f10.params[j]? =some t->args[j]? =some v->Value.okWide Tryz.prog W .any base t v:=MN
 have hW':=hW
 obtain⟨p,q,hA0,hV,rfl,CB,mi⟩:=hW
 have hA:DataW.TrodAll enc Tryz.prog W 0 (fun _=>true) true Tryz.f10.params.toList args.toList ds p:=hA0
 rw[Tryz.params10]at hA sR
 obtain⟨v0,vs0,d0,ds0,p0,q0,nD,rfl,rfl,h0,r0⟩:=trodAll_cons hA
 obtain⟨v1,vs1,d1,ds1,p1,q1,rfl,rfl,rfl,h1,r1⟩:=trodAll_cons r0
 obtain⟨rfl,rfl,rfl⟩:=trodAll_nil r1
 obtain rfl:args= #[v0,v1]:=by cases args;simp_all
 obtain⟨rfl,rfl⟩:=trodVars_none hV
 obtain⟨Pv,rfl,_⟩:=okWide_struct Tryz.underlying30 (sR 0 30 v0 rfl rfl)
 obtain⟨Tf,rfl,_⟩:=okWide_struct Tryz.underlying28 (sR 1 28 v1 rfl rfl)
 have k0:=h0
 have k1:=h1
 have lt0:∀x∈p0,x.block<W.heap.size:=by obtain⟨m,hm⟩:=k0;exact DataW.trod_lt m _ _ _ hm
 have PT:∀x∈p1,x.block<W.heap.size:=by obtain⟨m,hm⟩:=k1;exact DataW.trod_lt m _ _ _ hm
 obtain⟨A0,n0,c0,f0,A1,n1,c1,f1,A2,n2,c2,f2,s,dt,w0,s0,w1,s1,w2,s2,o0,o1⟩:∃A0 n0 c0 f0 A1 n1 c1 f1 A2 n2 c2 f2,∃d:aA,(Value.agg Pv).cells.toList=[.slice A0 n0 c0,.slice A1 n1 c1,.slice A2 n2 c2,.int .i64 d.aB]/\fG f0 0 W.heap.size/\qR W f0 (.slice A0 n0 c0) d.aE.ax/\fG f1 0 W.heap.size/\qS W f1 (.slice A1 n1 c1) d.aE.ah/\fG f2 0 W.heap.size/\jb W f2 (.slice A2 n2 c2) d.aZ.ah/\(∀g∈d.aE.ax,g.aC.size<=9223372036854775807)/\∀t∈d.aE.ah,t.aC.size<=9223372036854775807:=by
  obtain⟨fuel,hf⟩:=h0
  exact Jj hf
 obtain⟨A3,n3,c3,f3,a,Qw,w3,s3⟩:∃A n c f,∃d:dL,(Value.agg Tf).cells.toList=[.slice A n c]/\fG f 0 W.heap.size/\jb W f (.slice A n c) d.ah:=by
  obtain⟨fuel,hf⟩:=h1
  exact wu hf
 obtain rfl:Pv= #[.slice A0 n0 c0,.slice A1 n1 c1,.slice A2 n2 c2,.int .i64 s.aB]:=by
  cases Pv;simp[Value.cells]at dt;subst dt;rfl
 obtain rfl:Tf= #[.slice A3 n3 c3]:=by
  cases Tf;simp[Value.cells]at Qw;subst Qw;rfl
 clear hA0 MN
 have gJ:fh Tryz.prog W (fun b=>b<W.heap.size) (fun _=>none) [.agg (aw s),.agg (aP a)] #[.agg #[.slice A0 n0 c0,.slice A1 n1 c1,.slice A2 n2 c2,.int .i64 s.aB],.agg #[.slice A3 n3 c3]]:=by
  have h:=mu (CQ s0 (fun b hb=>(w0 b hb).2) s1 (fun b hb=>(w1 b hb).2) s2 (fun b hb=>(w2 b hb).2)) (mu (y6 s3 (fun b hb=>(w3 b hb).2)) (⟨rfl,fun j b hj=>by cases j<;>cases hj⟩:fh Tryz.prog W (fun b=>b<W.heap.size) (fun _=>none) [] #[]))
  simpa using h
 have im:=Ow mixed (L3 s a ⟨o0,o1⟩) gJ
 clear s0 s1 s2 s3 w0 w1 w2 w3 gJ
 refine(im.mono fun e W' ⟨he,bel⟩=>?_)
 subst he
 exact⟨_,rfl,_,_,_,[],_,[],hW',trodAll_mk1 (shut_bool Tryz.underlying4 _),(trodAll_cons_mk (Below.trod I5 (by kernel_rfl) (of_decide_eq_true (by kernel_rfl)) k0 bel lt0) (trodAll_cons_mk (Below.trod I5 (by kernel_rfl) (of_decide_eq_true (by kernel_rfl)) k1 bel PT) trodAll_mk0)),rfl,bel.frame _,fun h=>by cases h⟩
end Go.Proofs.YtgoelphibofcmaaGreat

namespace Go.Proofs.YtgoelphibofcmaaGreat
open Go.ChangeShapes Go.WideShapes Go.ChangeAt Go.RowKit
theorem sqN:Tryz.pinned.checked.prog.funcNamed Rows.fnExactSequenceOfRow.func=some 10:=by kernel_rfl
theorem sqJ:joinedFacts Tryz.pinned.checked.prog 10 Tryz.f10 Rows.fnExactSequenceOfSpec Rows.fnExactSequenceOfRow=true:=by
 unfold joinedFacts
 repeat(with_reducible refine Bool.and_eq_true_iff.2 ⟨?_,by as_aux_lemma=>kernel_rfl⟩)
 as_aux_lemma=>kernel_rfl
theorem sqI:Tryz.f10.isInstance Tryz.pinned.checked.prog Rows.fnExactSequenceOfRow.origin Rows.fnExactSequenceOfRow.targs:=of_decide_eq_true (by kernel_rfl)
theorem sqW:Tryz.f10.isWrapper Tryz.pinned.checked.prog Rows.fnExactSequenceOfRow.wrapper Rows.fnExactSequenceOfRow.mainSum:=by
 unfold Func.isWrapper;first|(rw[if_pos (by decide+kernel)];kernel_rfl)|(rw[if_neg (by decide+kernel)];exact⟨rfl,rfl⟩)
theorem JK:Rows.fnExactSequenceOfRow.holds Tryz.pinned (OpenSpec.ofChange Rows.fnExactSequenceOfSpec):=
 OpenClaim.holds_of_wide 10 Tryz.f10 rfl rfl rfl rfl rfl rfl rfl ⟨rfl,rfl,rfl,rfl,rfl⟩ rfl rfl rfl rfl rfl sqN Tryz.func10 sqJ sqI sqW
  (fun os started H enc _=>D7 os started H enc)
theorem fnExactSequenceOf_proved:Rows.FnExactSequenceOfSaid:=JK
end Go.Proofs.YtgoelphibofcmaaGreat
