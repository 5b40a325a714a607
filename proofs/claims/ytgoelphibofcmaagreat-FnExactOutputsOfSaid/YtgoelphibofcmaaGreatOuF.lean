/- Networks by matrices: one is made. -/
import Derived.Test.YtgoelphibofcmaaGreatOuE
import Derived.Test.YtgoelphibofcmaaGreatOuC
import Derived.RangeFuncCalls
import Derived.OrdersIn
import Derived.Test.YtgoelphibofcmaaGreatOuB
import Derived.Test.YtgoelphibofcmaaGreatChecked
import Derived.ProofKit
import Derived.Deep.Slices
import Derived.ChangeSame
import Derived.Test.YtgoelphibofcmaaGreatRows
import Derived.OpenShut
import Derived.ShutString
import Derived.ChangeOld
import Derived.Below
set_option linter.unusedVariables false
set_option linter.unusedSimpArgs false
set_option maxRecDepth 100000
set_option maxHeartbeats 16000000
namespace Go.Proofs.YtgoelphibofcmaaGreat.V
open Go.RowKit
attribute [local irreducible] dQ wpOps fX Call
attribute [local go_sem] aQ fM eU fY fW dm upd cG K.av cQ AV.cells AV.cell rowOf rowsOf part ld rowAt bQ cC dE ea gZ bS dh eo fV fj dB ef dd dc dS dU b4 bj cV bW cY cW ec eh ee cU ck de eb bV aU da cK gY bx cP cj bd dv bl dG AV.undef bH bK dW dZ dO dL cN ek eu cJ ej ei cZ db List.getD_cons_zero List.getD_cons_succ List.getD_nil List.all_cons List.all_nil Bool.and_true Bool.true_and Bool.and_self Bool.not_true Bool.not_false Option.map_some Option.map_none Option.bind_some Option.bind_none List.length_cons List.length_nil List.take_succ_cons List.take_zero List.take_nil List.drop_succ_cons List.drop_zero List.drop_nil List.head?_cons List.map_cons List.map_nil List.getElem?_cons_zero List.getElem?_cons_succ List.cons_append List.nil_append List.append_nil List.length_map List.set_cons_zero List.set_cons_succ Nat.reduceMul eq_self Int.toNat_natCast Int.natCast_nonneg and_self true_and and_true decide_true decide_false Bool.false_eq_true Nat.zero_add Nat.add_zero List.contains_cons List.contains_nil Bool.or_false Bool.false_or beq_self_eq_true Nat.reduceBEq ne_eq not_true_eq_false not_false_eq_true Id.mk.injEq false_and and_false Nat.reduceLT Int.reduceLE Int.reduceLT Int.reduceToNat Int.reduceNeg Int.reduceAdd Nat.le_refl List.length_append beq_true beq_false Bool.not_eq_eq_eq_not or_false false_or dX ae aj aJ bq bG cr aY bf aW bp cR bB
theorem IF (n:Nat):List.replicate n [AV.int .i64 0]=eC (fun _=>0) n:=by
 refine List.ext_getElem? fun i=>?_
 by_cases h:i<n
 ·rw[ep h,List.getElem?_replicate,if_pos h];rfl
 ·rw[List.getElem?_eq_none (by simp;omega),List.getElem?_eq_none (by rw[dR];omega)]
theorem Bf {i j:Id} {s t:Nat} (hi:i.site=s) (hj:j.site=t) (h:(s==t)=false):(i=j)=False/\(j=i)=False:=by
 constructor<;>(simp only[eq_iff_iff,iff_false];rintro rfl;rw[hi]at hj;subst hj;simp at h)
theorem Dd (cnt:Nat) (rm:1<=cnt) (hn:cnt<=1048576) (bs:List PB) (hb:∀b∈bs,b.a<cnt/\b.b<cnt) (dJ:∀b∈bs,0<=b.s/\b.s<=4) (qE:bs.length<=1048576) (σ:au):
  Call Tryz.prog 245 [.int .i64 cnt,.sl (bs.map aH)] σ fun r σ'=>∃X o1 o2 R1 R2,r=.ptr X 0 0/\G8 X o1 o2 R1 R2 cnt σ'.next/\σ.next<=σ'.next/\ow σ'.get X o1 o2 R1 R2 cnt (lE bs) (fun _ _=>0)/\∀i:Id,i.bE<σ.next->σ'.get i=σ.get i:=by
 refine eJ eF rfl fun hl=>?_
 clear hl
 (try((repeat(revert hN;revert N;apply Pn.out));refine wk @Nat.zero_add ?_;(repeat(refine Pn.mk ?_;intro N hN))))
 obtain⟨X,hX⟩:∃X:Id,X=⟨245001001,σ.next+1⟩:=⟨_,rfl⟩
 obtain⟨R1,VG⟩:∃R:Nat->Id,R=fun k=>⟨245004006,σ.next+3+4*k+1⟩:=⟨_,rfl⟩
 obtain⟨R2,Sp⟩:∃R:Nat->Id,R=fun k=>⟨245005006,σ.next+3+4*k+2⟩:=⟨_,rfl⟩
 have sX:X.site=245001001:=by rw[hX]
 have vX:X.bE=σ.next+1:=by rw[hX]
 have s1:∀k,(R1 k).site=245004006:=fun k=>by rw[VG]
 have s2:∀k,(R2 k).site=245005006:=fun k=>by rw[Sp]
 have v1:∀k,(R1 k).bE=σ.next+3+4*k+1:=fun k=>by rw[VG]
 have v2:∀k,(R2 k).bE=σ.next+3+4*k+2:=fun k=>by rw[Sp]
 have jW:(0:Int)<=(cnt:Int):=by omega
 have nw:(cnt:Int)<=((16777216:Nat):Int):=by omega
 have hz:=IF cnt
 have t1:lG R1 cnt 0=[]:=rfl
 have t2:lG R2 cnt 0=[]:=rfl
 refine aZ (fun n env st=>∃k:Nat,n=(cnt)-k/\k<=(cnt)/\env 11=.int .i64 (k:Int)/\env 5=(.ptr X 0 0)/\(st.next=σ.next+3+4*k/\(∀i:Id,i.bE<σ.next->st.get i=σ.get i)/\∀j,j<k->st.get (R1 j)=some ⟨true,1,eC (fun _=>0) cnt⟩/\st.get (R2 j)=some ⟨true,1,eC (fun _=>0) cnt⟩)/\((k=0/\st.get X=some ⟨true,2,[[.bD,.bD]]⟩)∨∃o1 o2:Id,o1.site=245004008/\o2.site=245005008/\o1.bE<st.next/\o2.bE<st.next/\σ.next<=o1.bE/\σ.next<=o2.bE/\st.get X=some ⟨true,2,[[.own o1 0 k,.own o2 0 k]]⟩/\st.get o1=some ⟨true,1,lG R1 cnt k⟩/\st.get o2=some ⟨true,1,lG R2 cnt k⟩)) (cnt) ⟨0,by omega,by omega,sl @hX,sl @hX,⟨rfl,fun i hi=>by(have E5:=dr hi);simp only[go_sem, ↓reduceIte,Nat.reduceEqDiff,Nat.reduceAdd,Nat.reduceSub,Nat.reduceLeDiff,reduceCtorEq,E5],fun j hj=>absurd hj (Nat.not_lt_zero j)⟩,.inl ⟨rfl,by rw[hX];simp only[go_sem, ↓reduceIte,Nat.reduceEqDiff,Nat.reduceAdd,Nat.reduceSub,Nat.reduceLeDiff,reduceCtorEq]⟩⟩ ?_
 rintro n_a env_a st_a ⟨k,rfl,ale,Jr,a5,jO,aI1⟩ dy
 have a0:=dy 0 (by kernel_rfl);have a1:=dy 1 (by kernel_rfl);have mD:=dy 10 (by kernel_rfl)
 simp only[go_sem, ↓reduceIte,Nat.reduceEqDiff,Nat.reduceAdd,Nat.reduceSub,Nat.reduceLeDiff,reduceCtorEq,hX]at a0 a1 mD
 clear dy
 obtain⟨anx,dy,aR⟩:=jO
 have wX:=dr (i:=X) (n:=st_a.next) (by omega)
 by_cases hk:(k:Int)<(cnt:Int)
 ·have cw:∀{e:Env} {gg:Rows} {nx:Nat},(e 11=.int .i64 (IntKind.i64.wrap ((k:Int)+1)))->(e 5=(.ptr X 0 0))->(nx=σ.next+3+4*(k+1)/\(∀i:Id,i.bE<σ.next->gg i=σ.get i)/\∀j,j<(k+1)->gg (R1 j)=some ⟨true,1,eC (fun _=>0) cnt⟩/\gg (R2 j)=some ⟨true,1,eC (fun _=>0) cnt⟩)->(((k+1)=0/\gg X=some ⟨true,2,[[.bD,.bD]]⟩)∨∃o1 o2:Id,o1.site=245004008/\o2.site=245005008/\o1.bE<nx/\o2.bE<nx/\σ.next<=o1.bE/\σ.next<=o2.bE/\gg X=some ⟨true,2,[[.own o1 0 (k+1),.own o2 0 (k+1)]]⟩/\gg o1=some ⟨true,1,lG R1 cnt (k+1)⟩/\gg o2=some ⟨true,1,lG R2 cnt (k+1)⟩)->∃m0,m0<(cnt)-k/\∃k:Nat,m0=(cnt)-k/\k<=(cnt)/\e 11=.int .i64 (k:Int)/\e 5=(.ptr X 0 0)/\(nx=σ.next+3+4*k/\(∀i:Id,i.bE<σ.next->gg i=σ.get i)/\∀j,j<k->gg (R1 j)=some ⟨true,1,eC (fun _=>0) cnt⟩/\gg (R2 j)=some ⟨true,1,eC (fun _=>0) cnt⟩)/\((k=0/\gg X=some ⟨true,2,[[.bD,.bD]]⟩)∨∃o1 o2:Id,o1.site=245004008/\o2.site=245005008/\o1.bE<nx/\o2.bE<nx/\σ.next<=o1.bE/\σ.next<=o2.bE/\gg X=some ⟨true,2,[[.own o1 0 k,.own o2 0 k]]⟩/\gg o1=some ⟨true,1,lG R1 cnt k⟩/\gg o2=some ⟨true,1,lG R2 cnt k⟩):=fun x1 x2 x3 x4=>⟨_,by omega,k+1,rfl,by omega,(by rw[x1,aD (by omega)]),x2,x3,x4⟩
  have fP:k<cnt:=by omega
  have yk:R1 k=⟨245004006,st_a.next+1⟩:=by rw[VG,anx]
  have xk:R2 k=⟨245005006,st_a.next+1+1⟩:=by rw[Sp,anx]
  have Gt:lG R1 cnt (k+1)=lG R1 cnt k++[[.own ⟨245004006,st_a.next+1⟩ 0 cnt]]:=by rw[uc,yk]
  have RG:lG R2 cnt (k+1)=lG R2 cnt k++[[.own ⟨245005006,st_a.next+1+1⟩ 0 cnt]]:=by rw[uc,xk]
  rcases aI1 with⟨rfl,RY⟩|⟨o1,o2,so1,so2,vo1,vo2,vn1,vn2,RY,ag1,ag2⟩
  ·(try((repeat(revert hN;revert N;apply Pn.out));refine wk (tw @Jr (tw @a5 (tw @a0 (tw @a1 (tw @mD (tw @hk (tw @wX (tw @RY (tw @jW (tw @nw (tw @Int.le_refl @hz))))))))))) ?_;(repeat(refine Pn.mk ?_;intro N hN))))
   refine cw ?_ ?_ (by
    (try dsimp only)
    refine⟨by omega,fun i hi=>?_,fun j hj=>?_⟩
    ·have q1:=dr (i:=i) (n:=st_a.next) (by omega)
     have q2:=cm (a:=i) (b:=X) (by omega)
     have:=dy i hi
     simp only[go_sem, ↓reduceIte,Nat.reduceEqDiff,Nat.reduceAdd,Nat.reduceSub,Nat.reduceLeDiff,reduceCtorEq,q1,q2,this]
    ·by_cases xj:j=0
     ·subst xj
      rw[yk,xk]
      have q1:=iw sX (b:=245004006) (v:=st_a.next+1) (by decide)
      have q2:=iw sX (b:=245005006) (v:=st_a.next+1+1) (by decide)
      simp only[go_sem, ↓reduceIte,Nat.reduceEqDiff,Nat.reduceAdd,Nat.reduceSub,Nat.reduceLeDiff,reduceCtorEq,q1,q2]
     ·obtain⟨r1,r2⟩:=aR j (by omega)
      have q1:=dr (i:=R1 j) (n:=st_a.next) (by rw[v1];omega)
      have q2:=dr (i:=R2 j) (n:=st_a.next) (by rw[v2];omega)
      have q3:=Bf (s1 j) sX (by decide)
      have q4:=Bf (s2 j) sX (by decide)
      constructor
      ·simp only[go_sem, ↓reduceIte,Nat.reduceEqDiff,Nat.reduceAdd,Nat.reduceSub,Nat.reduceLeDiff,reduceCtorEq,q1,q3,r1]
      ·simp only[go_sem, ↓reduceIte,Nat.reduceEqDiff,Nat.reduceAdd,Nat.reduceSub,Nat.reduceLeDiff,reduceCtorEq,q2,q4,r2]) (.inr ⟨⟨245004008,st_a.next+1⟩,⟨245005008,st_a.next+1+1⟩,rfl,rfl,by(try dsimp only);omega,by(try dsimp only);omega,by(try dsimp only);omega,by(try dsimp only);omega,sd @wX,by rw[Gt,t1];simp only[go_sem, ↓reduceIte,Nat.reduceEqDiff,Nat.reduceAdd,Nat.reduceSub,Nat.reduceLeDiff,reduceCtorEq,wX,List.nil_append],by rw[RG,t2];simp only[go_sem, ↓reduceIte,Nat.reduceEqDiff,Nat.reduceAdd,Nat.reduceSub,Nat.reduceLeDiff,reduceCtorEq,wX,List.nil_append]⟩)
   all_goals simp only[go_sem, ↓reduceIte,Nat.reduceEqDiff,Nat.reduceAdd,Nat.reduceSub,Nat.reduceLeDiff,reduceCtorEq,Jr,a5,a0,a1,mD,wX]
  ·have l1:=kE R1 cnt k
   have l2:=kE R2 cnt k
   have e1:k+1<=16777216:=by omega
   have w1:=dr vo1
   have w2:=dr vo2
   have x1:=Bf sX so1 (by decide)
   have x2:=Bf sX so2 (by decide)
   have x3:=Bf so1 so2 (by decide)
   (try((repeat(revert hN;revert N;apply Pn.out));refine wk (tw @Jr (tw @a5 (tw @a0 (tw @a1 (tw @mD (tw @hk (tw @wX (tw @RY (tw @ag1 (tw @ag2 (tw @l1 (tw @l2 (tw @e1 (tw @w1 (tw @w2 (tw @x1 (tw @x2 (tw @x3 (tw @jW (tw @nw (tw @Int.le_refl @hz))))))))))))))))))))) ?_;(repeat(refine Pn.mk ?_;intro N hN))))
   refine cw ?_ ?_ (by
    (try dsimp only)
    refine⟨by omega,fun i hi=>?_,fun j hj=>?_⟩
    ·have q1:=dr (i:=i) (n:=st_a.next) (by omega)
     have q2:=cm (a:=i) (b:=X) (by omega)
     have q3:=cm (a:=i) (b:=o1) (by omega)
     have q4:=cm (a:=i) (b:=o2) (by omega)
     have:=dy i hi
     simp only[go_sem, ↓reduceIte,Nat.reduceEqDiff,Nat.reduceAdd,Nat.reduceSub,Nat.reduceLeDiff,reduceCtorEq,q1,q2,this,q3,q4]
    ·by_cases xj:j=k
     ·subst xj
      rw[yk,xk]
      have q1:=iw sX (b:=245004006) (v:=st_a.next+1) (by decide)
      have q2:=iw sX (b:=245005006) (v:=st_a.next+1+1) (by decide)
      simp only[go_sem, ↓reduceIte,Nat.reduceEqDiff,Nat.reduceAdd,Nat.reduceSub,Nat.reduceLeDiff,reduceCtorEq,q1,q2,w1,w2]
     ·obtain⟨r1,r2⟩:=aR j (by omega)
      have q1:=dr (i:=R1 j) (n:=st_a.next) (by rw[v1];omega)
      have q2:=dr (i:=R2 j) (n:=st_a.next) (by rw[v2];omega)
      have q3:=Bf (s1 j) sX (by decide)
      have q4:=Bf (s2 j) sX (by decide)
      have q5:=Bf (s1 j) so1 (by decide)
      have q6:=Bf (s1 j) so2 (by decide)
      have q7:=Bf (s2 j) so1 (by decide)
      have q8:=Bf (s2 j) so2 (by decide)
      constructor
      ·simp only[go_sem, ↓reduceIte,Nat.reduceEqDiff,Nat.reduceAdd,Nat.reduceSub,Nat.reduceLeDiff,reduceCtorEq,q1,q3,r1,q5,q6]
      ·simp only[go_sem, ↓reduceIte,Nat.reduceEqDiff,Nat.reduceAdd,Nat.reduceSub,Nat.reduceLeDiff,reduceCtorEq,q2,q4,r2,q7,q8]) (.inr ⟨⟨245004008,st_a.next+1⟩,⟨245005008,st_a.next+1+1⟩,rfl,rfl,by(try dsimp only);omega,by(try dsimp only);omega,by(try dsimp only);omega,by(try dsimp only);omega,sd @wX,by rw[Gt];simp only[go_sem, ↓reduceIte,Nat.reduceEqDiff,Nat.reduceAdd,Nat.reduceSub,Nat.reduceLeDiff,reduceCtorEq,wX,w1,w2],by rw[RG];simp only[go_sem, ↓reduceIte,Nat.reduceEqDiff,Nat.reduceAdd,Nat.reduceSub,Nat.reduceLeDiff,reduceCtorEq,wX,w1,w2]⟩)
   all_goals simp only[go_sem, ↓reduceIte,Nat.reduceEqDiff,Nat.reduceAdd,Nat.reduceSub,Nat.reduceLeDiff,reduceCtorEq,Jr,a5,a0,a1,mD,wX,w1,w2,x1,x2,x3]
 have kT:cnt=k:=by omega
 subst kT
 rcases aI1 with⟨h0,_⟩|⟨o1,o2,so1,so2,vo1,vo2,vn1,vn2,RY,ag1,ag2⟩
 ·omega
 (try((repeat(revert hN;revert N;apply Pn.out));refine wk (tw @Jr (tw @a5 (tw @a0 (tw @a1 (tw @mD @hk))))) ?_;(repeat(refine Pn.mk ?_;intro N hN))))
 have I:G8 X o1 o2 R1 R2 cnt st_a.next:=⟨sX,so1,so2,fun i _=>s1 i,fun i _=>s2 i,fun i j _ _ h=>by have:=v1 i;rw[h,v1]at this;omega,fun i j _ _ h=>by have:=v2 i;rw[h,v2]at this;omega,by omega,vo1,vo2,fun i hi=>by rw[v1];omega,fun i hi=>by rw[v2];omega⟩
 refine aZ (fun n env st=>∃i:Nat,n=(bs.length)-i/\i<=(bs.length)/\env 38=.int .i64 (i:Int)/\(st_a.next<=st.next/\(∀x:Id,x.bE<σ.next->st.get x=σ.get x)/\ow st.get X o1 o2 R1 R2 cnt (lE (bs.take i)) (fun _ _=>0))) (bs.length) ⟨0,by omega,by omega,sl (tw @Jr (tw @a5 (tw @a0 (tw @a1 @mD)))),⟨by(try dsimp only);omega,dy,RY,ag1,ag2,fun j hj=>(aR j hj).1,fun j hj=>(aR j hj).2⟩⟩ ?_
 rintro n_b env_b st_b ⟨i,rfl,ble,wL,bI0⟩ fK
 have b0:=fK 0 (by kernel_rfl);have b1:=fK 1 (by kernel_rfl);have b5:=fK 5 (by kernel_rfl);have Rn:=fK 36 (by kernel_rfl);have vp:=fK 37 (by kernel_rfl)
 simp only[go_sem, ↓reduceIte,Nat.reduceEqDiff,Nat.reduceAdd,Nat.reduceSub,Nat.reduceLeDiff,reduceCtorEq,Jr,a5,a0,a1,mD]at b0 b1 b5 Rn vp
 clear fK
 obtain⟨bn,O9,bM⟩:=bI0
 by_cases hi:(i:Int)<(bs.length:Int)
 ·have fE:∀{e:Env} {gg:Rows} {nx:Nat},(e 38=.int .i64 (IntKind.i64.wrap ((i:Int)+1)))->(st_a.next<=nx/\(∀x:Id,x.bE<σ.next->gg x=σ.get x)/\ow gg X o1 o2 R1 R2 cnt (lE (bs.take (i+1))) (fun _ _=>0))->∃m0,m0<(bs.length)-i/\∃i:Nat,m0=(bs.length)-i/\i<=(bs.length)/\e 38=.int .i64 (i:Int)/\(st_a.next<=nx/\(∀x:Id,x.bE<σ.next->gg x=σ.get x)/\ow gg X o1 o2 R1 R2 cnt (lE (bs.take i)) (fun _ _=>0)):=fun x1 x2=>⟨_,by omega,i+1,rfl,by omega,(by rw[x1,aD (by omega)]),x2⟩
  have fe:i<bs.length:=by omega
  have iV:(bs.map aH)[i]? =some (aH bs[i]):=by simp[fe]
  have gm:=hb _ (List.getElem_mem fe)
  have hsi:=dJ _ (List.getElem_mem fe)
  have tL:lE (bs.take (i+1))=oy (lE (bs.take i)) bs[i]:=by rw[List.take_succ_eq_append_getElem fe,FC]
  have rl:=A7 (bs.take i) (fun _ _=>0) (fun b hb=>(dJ b (List.mem_of_mem_take hb)).1) (fun _ _=>Int.le_refl _)
  have hle:=room_le (bs.take i) (fun _ _=>0) 0 (fun b hb=>(dJ b (List.mem_of_mem_take hb)).2) (fun _ _=>Int.le_refl _) (Int.le_refl _)
  rw[List.length_take]at hle
  have gq:(bs.take i).foldl oy (fun _ _=>0)=lE (bs.take i):=rfl
  rw[gq]at rl hle
  generalize lE (bs.take i)=c at *
  generalize bs[i]=b at *
  obtain⟨ha,tE⟩:=gm
  have gA:=sZ (R:=R1) (n:=cnt) ha
  have gB:=sZ (R:=R1) (n:=cnt) tE
  have rA:=bM.r1 _ ha
  have rB:=bM.r1 _ tE
  have cA:=ep (f:=c b.a) tE
  have cB:=ep (f:=c b.b) ha
  have sA:=oZ (f:=c) (a:=b.a) (d:=b.s) tE
  have gX:=bM.x
  have g1:=bM.t1
  have gW:(b.a:Int)<(cnt:Int):=by omega
  have gm:(b.b:Int)<(cnt:Int):=by omega
  have qX:=dr (i:=X) (n:=st_b.next) (by omega)
  have q1:=dr (i:=o1) (n:=st_b.next) (by omega)
  have qA:=dr (i:=R1 b.a) (n:=st_b.next) (by rw[v1];omega)
  have qB:=dr (i:=R1 b.b) (n:=st_b.next) (by rw[v1];omega)
  have xA:=Bf sX (s1 b.a) (by decide)
  have xB:=Bf sX (s1 b.b) (by decide)
  have yA:=Bf so1 (s1 b.a) (by decide)
  have yB:=Bf so1 (s1 b.b) (by decide)
  have l1:=kE R1 cnt cnt
  have lA:=dR (c b.a) cnt
  have lB:=dR (c b.b) cnt
  have hAB:=hle b.a b.b
  have hBA:=hle b.b b.a
  have gAB:=rl b.a b.b
  have gBA:=rl b.b b.a
  have wA:IntKind.i64.wrap (c b.a b.b+b.s)=c b.a b.b+b.s:=bI (by omega)
  by_cases rh:b.a=b.b
  ·obtain⟨ba,bb,s⟩:=b
   dsimp only at *
   subst rh
   have Qi:=oZ (f:=bump c ba ba s) (a:=ba) (b:=ba) (d:=s) (n:=cnt) ha
   have VM:=ep (f:=bump c ba ba s ba) ha
   have hv:bump c ba ba s ba ba=c ba ba+s:=by simp[bump]
   have lC:=dR (bump c ba ba s ba) cnt
   have wB:IntKind.i64.wrap (c ba ba+s+s)=c ba ba+s+s:=bI (by omega)
   rw[hv]at Qi VM
   have tG:oy c ⟨ba,ba,s⟩ ba=bump (bump c ba ba s) ba ba s ba:=rfl
   rw[az]at cA sA Qi VM
   (try((repeat(revert hN;revert N;apply Pn.out));refine wk (tw @wL (tw @b0 (tw @b1 (tw @b5 (tw @Rn (tw @vp (tw @hi (tw @iV (tw @aH.eq_1 (tw @gA (tw @rA (tw @cA (tw @sA (tw @gX (tw @g1 (tw @gW (tw @qX (tw @q1 (tw @qA (tw @xA (tw @yA (tw @l1 (tw @lA (tw @wA (tw @Qi (tw @VM (tw @lC @wB))))))))))))))))))))))))))) ?_;(repeat(refine Pn.mk ?_;intro N hN))))
   exact fE (sd (tw @wL (tw @b0 (tw @b1 (tw @b5 (tw @Rn @vp)))))) (by
    (try dsimp only)
    refine⟨by omega,fun x hx=>?_,?_⟩
    ·have p1:=dr (i:=x) (n:=st_b.next) (by omega)
     have p2:=cm (a:=x) (b:=R1 ba) (by rw[v1];omega)
     have:=O9 x hx
     simp only[go_sem, ↓reduceIte,Nat.reduceEqDiff,Nat.reduceAdd,Nat.reduceSub,Nat.reduceLeDiff,reduceCtorEq,p1,p2,this]
    ·rw[tL]
     refine bM.add I ⟨ba,ba,s⟩ ha ha (fun h=>absurd rfl h) ?_ fun x hx h1 h2=>?_
     ·rw[tG]
      simp only[go_sem, ↓reduceIte,Nat.reduceEqDiff,Nat.reduceAdd,Nat.reduceSub,Nat.reduceLeDiff,reduceCtorEq]
     ·have p1:=dr (i:=x) (n:=st_b.next) (by omega)
      (try dsimp only at h2)
      simp only[go_sem, ↓reduceIte,Nat.reduceEqDiff,Nat.reduceAdd,Nat.reduceSub,Nat.reduceLeDiff,reduceCtorEq,p1,h2])
  ·have gM:(R1 b.a=R1 b.b)=False:=by simp only[eq_iff_iff,iff_false];exact fun h=>rh (I.i1 _ _ ha tE h)
   have Kh:(R1 b.b=R1 b.a)=False:=by simp only[eq_iff_iff,iff_false];exact fun h=>rh (I.i1 _ _ ha tE h.symm)
   have P9:bump c b.a b.b b.s b.b=c b.b:=km fun h=>rh h.symm
   have Qi:=oZ (f:=bump c b.a b.b b.s) (a:=b.b) (b:=b.a) (d:=b.s) (n:=cnt) ha
   rw[P9]at Qi
   have wB:IntKind.i64.wrap (c b.b b.a+b.s)=c b.b b.a+b.s:=bI (by omega)
   have tG:oy c b b.b=bump (bump c b.a b.b b.s) b.b b.a b.s b.b:=rfl
   rw[az]at cA cB sA Qi
   (try((repeat(revert hN;revert N;apply Pn.out));refine wk (tw @wL (tw @b0 (tw @b1 (tw @b5 (tw @Rn (tw @vp (tw @hi (tw @iV (tw @aH.eq_1 (tw @gA (tw @gB (tw @rA (tw @rB (tw @cA (tw @cB (tw @sA (tw @gX (tw @g1 (tw @gW (tw @gm (tw @qX (tw @q1 (tw @qA (tw @qB (tw @xA (tw @xB (tw @yA (tw @yB (tw @l1 (tw @lA (tw @lB (tw @wA (tw @Qi (tw @wB (tw @gM @Kh))))))))))))))))))))))))))))))))))) ?_;(repeat(refine Pn.mk ?_;intro N hN))))
   exact fE (sd (tw @wL (tw @b0 (tw @b1 (tw @b5 (tw @Rn @vp)))))) (by
    (try dsimp only)
    refine⟨by omega,fun x hx=>?_,?_⟩
    ·have p1:=dr (i:=x) (n:=st_b.next) (by omega)
     have p2:=cm (a:=x) (b:=R1 b.b) (by rw[v1];omega)
     have p3:=cm (a:=x) (b:=R1 b.a) (by rw[v1];omega)
     have:=O9 x hx
     simp only[go_sem, ↓reduceIte,Nat.reduceEqDiff,Nat.reduceAdd,Nat.reduceSub,Nat.reduceLeDiff,reduceCtorEq,p1,p2,p3,this]
    ·rw[tL]
     refine bM.add I b ha tE (fun h=>?_) ?_ fun x hx h1 h2=>?_
     ·simp only[go_sem, ↓reduceIte,Nat.reduceEqDiff,Nat.reduceAdd,Nat.reduceSub,Nat.reduceLeDiff,reduceCtorEq,gM]
     ·rw[tG]
      simp only[go_sem, ↓reduceIte,Nat.reduceEqDiff,Nat.reduceAdd,Nat.reduceSub,Nat.reduceLeDiff,reduceCtorEq,gM]
     ·have p1:=dr (i:=x) (n:=st_b.next) (by omega)
      simp only[go_sem, ↓reduceIte,Nat.reduceEqDiff,Nat.reduceAdd,Nat.reduceSub,Nat.reduceLeDiff,reduceCtorEq,p1,h1,h2])
 ·have kF:i=bs.length:=by omega
  subst kF
  rw[List.take_length]at bM
  (try((repeat(revert hN;revert N;apply Pn.out));refine wk (tw @wL (tw @b0 (tw @b1 (tw @b5 (tw @Rn (tw @vp @hi)))))) ?_;(repeat(refine Pn.mk ?_;intro N hN))))
  exact eV (.inl rfl) (vs:=[.ptr X 0 0]) (sd @Nat.zero_add) ⟨X,o1,o2,R1,R2,rfl,⟨I.sx,I.s1,I.s2,I.UU,I.OP,I.i1,I.i2,by have:=I.vx;(try dsimp only);omega,by have:=I.v1;(try dsimp only);omega,by have:=I.v2;(try dsimp only);omega,fun j hj=>by have:=I.UX j hj;(try dsimp only);omega,fun j hj=>by have:=I.RT j hj;(try dsimp only);omega⟩,by(try dsimp only);omega,bM,O9⟩
end Go.Proofs.YtgoelphibofcmaaGreat.V

namespace Go.Proofs.YtgoelphibofcmaaGreat.V
structure Bq (n:Nat) (c f:Nat->Nat->Int) (x:Nat) (par:Nat->Int) (Q:List Nat) (i:Nat):Prop where
 nodup:Q.Nodup
 lt:∀v∈Q,v<n
 root:par x=(x:Int)
 mem:x∈Q
 iff:∀v,v<n->(0<=par v↔v∈Q)
 up:∀v∈Q,v≠x->∃u,u∈Q/\par v=(u:Int)/\Q.idxOf u<Q.idxOf v/\f u v<c u v
 done:∀j (_:j<i) (hl:j<Q.length) (v:Nat),v<n->f Q[j] v<c Q[j] v->v∈Q
 ile:i<=Q.length
section
variable {n:Nat} {c f:Nat->Nat->Int} {x:Nat} {par:Nat->Int} {Q:List Nat} {i:Nat}
theorem Bq.len (h:Bq n c f x par Q i):Q.length<=n:=pw n Q h.nodup h.lt
theorem Bq.start (hx:x<n):Bq n c f x (fun v=>if v=x then(x:Int)else -1) [x] 0:=by
 refine⟨by simp,fun v hv=>by simp at hv;omega,by simp,by simp,fun v hv=>?_,fun v hv gM=>absurd (by simpa using hv) gM,fun j hj=>by omega,by simp⟩
 by_cases h:v=x
 ·simp[h]
 ·simp[h]
theorem Bq.visit (h:Bq n c f x par Q i) (hi:i<Q.length) {v:Nat} (hv:v<n) (hp:par v<0) (hr:f Q[i] v<c Q[i] v):Bq n c f x (fun w=>if w=v then(Q[i]:Int)else par w) (Q++[v]) i:=by
 have WB:v∉Q:=fun hm=>by have:=(h.iff v hv).2 hm;omega
 have Qs:x≠v:=fun e=>WB (e▸h.mem)
 have AD:∀u∈Q,(Q++[v]).idxOf u=Q.idxOf u:=fun u hu=>by rw[List.idxOf_append,if_pos hu]
 have xl:(Q++[v]).idxOf v=Q.length:=by rw[List.idxOf_append,if_neg WB];simp
 refine⟨?_,fun w hw=>?_,by simp only[if_neg Qs];exact h.root,by simp[h.mem],fun w hw=>?_,fun w hw gM=>?_,fun j hj hl w hw DW=>?_,by simp;omega⟩
 ·refine List.nodup_append.2 ⟨h.nodup,by simp,fun a ha b hb=>?_⟩
  rw[List.mem_singleton.1 hb]
  rintro rfl;exact WB ha
 ·rcases List.mem_append.1 hw with hw|hw
  ·exact h.lt w hw
  ·rw[List.mem_singleton.1 hw];exact hv
 ·by_cases Gw:w=v
  ·subst Gw;simp
  ·rw[if_neg Gw,h.iff w hw];simp[Gw]
 ·by_cases Gw:w=v
  ·subst Gw
   refine⟨Q[i],by simp,by simp,?_,hr⟩
   rw[AD _ (List.getElem_mem hi),xl]
   exact List.idxOf_lt_length_of_mem (List.getElem_mem hi)
  ·have hwQ:w∈Q:=by
    rcases List.mem_append.1 hw with hw|hw
    ·exact hw
    ·exact absurd (List.mem_singleton.1 hw) Gw
   obtain⟨u,h1,h2,h3,h4⟩:=h.up w hwQ gM
   exact⟨u,by simp[h1],by rw[if_neg Gw];exact h2,by rw[AD u h1,AD w hwQ];exact h3,h4⟩
 ·have iA:j<Q.length:=by have:=h.ile;omega
  rw[List.getElem_append_left iA]at DW
  exact List.mem_append_left _ (h.done j hj iA w hw DW)
theorem Bq.next (h:Bq n c f x par Q i) (hi:i<Q.length) (dx:∀v,v<n->f Q[i] v<c Q[i] v->0<=par v):Bq n c f x par Q (i+1):=by
 refine⟨h.nodup,h.lt,h.root,h.mem,h.iff,h.up,fun j hj hl v hv hr=>?_,by omega⟩
 by_cases ny:j=i
 ·subst ny;exact(h.iff v hv).1 (dx v hv hr)
 ·exact h.done j (by omega) hl v hv hr
theorem Bq.cut (h:Bq n c f x par Q Q.length) {y:Nat} (hy:y<n) (hp:par y<0):∃S:Nat->Bool,S x=true/\S y=false/\∀u v,u<n->v<n->S u=true->S v=false->¬f u v<c u v:=by
 refine⟨fun v=>decide (v∈Q),by simp[h.mem],?_,fun u v hu hv h1 h2 hr=>?_⟩
 ·have:y∉Q:=fun hm=>by have:=(h.iff y hy).2 hm;omega
  simp[this]
 ·simp only[decide_eq_true_eq,decide_eq_false_iff_not]at h1 h2
  obtain⟨j,hj,rfl⟩:=List.getElem_of_mem h1
  exact h2 (h.done j hj hj v hv hr)
def wg (c f:Nat->Nat->Int) (Q:List Nat) (y k:Nat) (out:List Nat):Prop:=∃rest,out.reverse=k::rest/\(k::rest).getLast (by simp)=y/\rV f c (k::rest)/\(k::rest).Pairwise (fun a b=>Q.idxOf a<Q.idxOf b)/\∀v∈k::rest,v∈Q
theorem wg.start {y:Nat} (hy:y∈Q):wg c f Q y y [y]:=⟨[],rfl,rfl,trivial,by simp,by simpa using hy⟩
theorem wg.step {y k u:Nat} {out:List Nat} (h:wg c f Q y k out) (hu:u∈Q) (hi:Q.idxOf u<Q.idxOf k) (hr:f u k<c u k):wg c f Q y u (out++[u]):=by
 obtain⟨rest,h1,h2,h3,h4,h5⟩:=h
 refine⟨k::rest,by rw[List.reverse_append,h1];rfl,by rw[List.getLast_cons (by simp)];exact h2,⟨hr,h3⟩,?_,?_⟩
 ·refine List.pairwise_cons.2 ⟨fun b hb=>?_,h4⟩
  rcases List.mem_cons.1 hb with rfl|hb
  ·exact hi
  ·have:=(List.pairwise_cons.1 h4).1 b hb;omega
 ·intro v hv
  rcases List.mem_cons.1 hv with rfl|hv
  ·exact hu
  ·exact h5 v hv
theorem wg.len {y k:Nat} {out:List Nat} (h:wg c f Q y k out) (hq:∀v∈Q,v<n):out.length<=n:=by
 obtain⟨rest,h1,_,_,h4,h5⟩:=h
 rw[<-List.length_reverse,h1]
 refine pw n _ (h4.imp fun ew he=>?_) fun v hv=>hq v (h5 v hv)
 subst he;omega
structure RX (n:Nat) (c f:Nat->Nat->Int) (x y:Nat) (p:List Nat):Prop where
 way:∃r,p=x::r/\(x::r).getLast (by simp)=y
 nodup:p.Nodup
 room:rV f c p
 lt:∀v∈p,v<n
theorem wg.way {y:Nat} {out:List Nat} (h:wg c f Q y x out) (hq:∀v∈Q,v<n):RX n c f x y out.reverse:=by
 obtain⟨rest,h1,h2,h3,h4,h5⟩:=h
 rw[h1]
 exact⟨⟨rest,rfl,h2⟩,h4.imp fun ew he=>by subst he;omega,h3,fun v hv=>hq v (h5 v hv)⟩
end
end Go.Proofs.YtgoelphibofcmaaGreat.V

namespace Go.Proofs.YtgoelphibofcmaaGreat.V
open Go.RowKit
attribute [local irreducible] dQ wpOps fX Call
attribute [local go_sem] aQ fM eU fY fW dm upd cG K.av cQ AV.cells AV.cell rowOf rowsOf part ld rowAt bQ cC dE ea gZ bS dh eo fV fj dB ef dd dc dS dU b4 bj cV bW cY cW ec eh ee cU ck de eb bV aU da cK gY bx cP cj bd dv bl dG AV.undef bH bK dW dZ dO dL cN ek eu cJ ej ei cZ db List.getD_cons_zero List.getD_cons_succ List.getD_nil List.all_cons List.all_nil Bool.and_true Bool.true_and Bool.and_self Bool.not_true Bool.not_false Option.map_some Option.map_none Option.bind_some Option.bind_none List.length_cons List.length_nil List.take_succ_cons List.take_zero List.take_nil List.drop_succ_cons List.drop_zero List.drop_nil List.head?_cons List.map_cons List.map_nil List.getElem?_cons_zero List.getElem?_cons_succ List.cons_append List.nil_append List.append_nil List.length_map List.set_cons_zero List.set_cons_succ Nat.reduceMul eq_self Int.toNat_natCast Int.natCast_nonneg and_self true_and and_true decide_true decide_false Bool.false_eq_true Nat.zero_add Nat.add_zero List.contains_cons List.contains_nil Bool.or_false Bool.false_or beq_self_eq_true Nat.reduceBEq ne_eq not_true_eq_false not_false_eq_true Id.mk.injEq false_and and_false Nat.reduceLT Int.reduceLE Int.reduceLT Int.reduceToNat Int.reduceNeg Int.reduceAdd Nat.le_refl List.length_append beq_true beq_false Bool.not_eq_eq_eq_not or_false false_or dX ae aj aJ bq bG cr aY bf aW bp cR bB
def mz (l:List Nat) (i x:Nat):Nat:=if x<i∨l.length-i<=x then l.getD (l.length-1-x) 0 else l.getD x 0
theorem zZ (l:List Nat):l.map eN=dV (fun x=>l.getD x 0) l.length:=by
 refine List.ext_getElem? fun i=>?_
 by_cases h:i<l.length
 ·rw[fJ h,List.getElem?_map,List.getElem?_eq_getElem h];simp[List.getD_eq_getElem?_getD,h]
 ·rw[List.getElem?_eq_none (by simp;omega),List.getElem?_eq_none (by rw[gC];omega)]
theorem Iq (l:List Nat):dV (mz l 0) l.length=l.map eN:=by
 rw[zZ]
 exact iC fun x hx=>by unfold mz;rw[if_neg (by omega)]
theorem Ln (l:List Nat) {i:Nat} (h:l.length<=2*i+1) (hi:i<=l.length):dV (mz l i) l.length=l.reverse.map eN:=by
 rw[zZ l.reverse,List.length_reverse]
 refine iC fun x hx=>?_
 have hr:l.reverse.getD x 0=l.getD (l.length-1-x) 0:=by
  rw[List.getD_eq_getElem?_getD,List.getElem?_reverse hx,List.getD_eq_getElem?_getD]
 rw[hr]
 unfold mz
 by_cases hc:x<i∨l.length-i<=x
 ·rw[if_pos hc]
 ·rw[if_neg hc]
  have:x=l.length-1-x:=by omega
  rw[<-this]
theorem Ir (l:List Nat) (hp:0<l.length) (hl:l.length<=1048576) (o:Id) (σ:au) (ho:σ.get o=some ⟨true,1,l.map eN⟩) (u7:o.bE<σ.next):
  Call Tryz.prog 273 [.own o 0 l.length] σ fun r σ'=>σ'.get o=some ⟨true,1,l.reverse.map eN⟩/\σ.next<=σ'.next/\∀i:Id,i.bE<σ.next->(i=o)=False->σ'.get i=σ.get i:=by
 refine eJ eF rfl fun iQ=>?_
 clear iQ
 rw[<-Iq]at ho
 have UO:IntKind.i64.wrap ((l.length:Int)-1)=((l.length-1:Nat):Int):=by rw[bI (by omega)];omega
 (try((repeat(revert hN;revert N;apply Pn.out));refine wk @UO ?_;(repeat(refine Pn.mk ?_;intro N hN))))
 refine aZ (fun m env st=>∃i:Nat,m=l.length-i/\2*i<=l.length+1/\i<=l.length/\env 2=.int .i64 (i:Int)/\env 3=.int .i64 ((l.length:Int)-1-i)/\st.get o=some ⟨true,1,dV (mz l i) l.length⟩/\σ.next<=st.next/\∀x:Id,x.bE<σ.next->(x=o)=False->st.get x=σ.get x) l.length ⟨0,rfl,by omega,by omega,by(simp only[go_sem, ↓reduceIte,Nat.reduceEqDiff,Nat.reduceAdd,Nat.reduceSub,Nat.reduceLeDiff,reduceCtorEq])<;>rfl,by(simp only[go_sem, ↓reduceIte,Nat.reduceEqDiff,Nat.reduceAdd,Nat.reduceSub,Nat.reduceLeDiff,reduceCtorEq,UO]);congr 1;omega,ho,by(try dsimp only);omega,fun x _ _=>rfl⟩ ?_
 rintro m env_b st_b ⟨i,rfl,vV,kF,b2,b3,bg,bn,fK⟩ bkp
 have b0:=bkp 0 (by kernel_rfl)
 simp only[go_sem, ↓reduceIte,Nat.reduceEqDiff,Nat.reduceAdd,Nat.reduceSub,Nat.reduceLeDiff,reduceCtorEq]at b0
 clear bkp
 have tl:=gC (mz l i) l.length
 have qv:=dr (i:=o) (n:=st_b.next) (by omega)
 by_cases hi:(i:Int)<(l.length:Int)-1-i
 ·have fe:i<l.length:=by omega
  obtain⟨j,hj⟩:∃j,j=l.length-1-i:=⟨_,rfl⟩
  have iK:j<l.length:=by omega
  have Kd:(l.length:Int)-1-i=(j:Int):=by omega
  rw[Kd]at b3 hi
  have g1:=fJ (f:=mz l i) fe
  have g2:=fJ (f:=mz l i) iK
  have e1:mz l i i=l.getD i 0:=by unfold mz;rw[if_neg (by omega)]
  have e2:mz l i j=l.getD j 0:=by unfold mz;rw[if_neg (by omega)]
  have OA:(dV (mz l i) l.length).set i (eN (l.getD j 0))=dV (fun x=>if x=i then l.getD j 0 else mz l i x) l.length:=ql fe (if_pos rfl) fun x _ hx=>if_neg hx
  have Kr:(dV (fun x=>if x=i then l.getD j 0 else mz l i x) l.length).set j (eN (l.getD i 0))=dV (mz l (i+1)) l.length:=ql iK (by unfold mz;rw[if_pos (by omega)];congr 1;omega) fun x hx RK=>by
   by_cases DY:x=i
   ·rw[if_pos DY];unfold mz;rw[if_pos (by omega)];congr 1;omega
   ·rw[if_neg DY];unfold mz
    by_cases hc:x<i∨l.length-i<=x
    ·rw[if_pos hc,if_pos (by omega)]
    ·rw[if_neg hc,if_neg (by omega)]
  have UW:=gC (fun x=>if x=i then l.getD j 0 else mz l i x) l.length
  have g3:=fJ (f:=fun x=>if x=i then l.getD j 0 else mz l i x) iK
  rw[e1]at g1
  rw[e2]at g2
  rw[if_neg (by omega),e2]at g3
  rw[eN]at g1 g2 g3 OA Kr
  have Uy:(i:Int)<(l.length:Int):=by omega
  have ny:(j:Int)<(l.length:Int):=by omega
  have oq:IntKind.i64.wrap ((i:Int)+1)=((i+1:Nat):Int):=aD (by omega)
  have rD:IntKind.i64.wrap ((j:Int)-1)=(l.length:Int)-1-((i+1:Nat):Int):=by rw[bI (by omega)];omega
  (try((repeat(revert hN;revert N;apply Pn.out));refine wk (tw @b0 (tw @b2 (tw @b3 (tw @bg (tw @hi (tw @Uy (tw @ny (tw @g1 (tw @g2 (tw @g3 (tw @OA (tw @Kr (tw @tl (tw @UW (tw @qv (tw @oq @rD)))))))))))))))) ?_;(repeat(refine Pn.mk ?_;intro N hN))))
  refine⟨_,?_,i+1,rfl,by omega,by omega,sd @oq,sd @rD,sd @Kr,by(try dsimp only);omega,fun x hx I4=>?_⟩
  ·omega
  ·have:=fK x hx I4
   simp only[go_sem, ↓reduceIte,Nat.reduceEqDiff,Nat.reduceAdd,Nat.reduceSub,Nat.reduceLeDiff,reduceCtorEq,I4,this]
 ·rw[Ln l (by omega) kF]at bg
  (try((repeat(revert hN;revert N;apply Pn.out));refine wk (tw @b0 (tw @b2 (tw @b3 (tw @bg @hi)))) ?_;(repeat(refine Pn.mk ?_;intro N hN))))
  exact eV (.inr rfl) (vs:=[]) (by simp only[fG,go_sem, ↓reduceIte,Nat.reduceEqDiff,Nat.reduceAdd,Nat.reduceSub,Nat.reduceLeDiff,reduceCtorEq]) ⟨bg,by(try dsimp only);omega,fK⟩
theorem TL (cnt:Nat) (rm:1<=cnt) (hn:cnt<=1048576) (c f:Nat->Nat->Int) (x y:Nat) (hx:x<cnt) (hy:y<cnt):
  mH Tryz.prog 266 [.du (lW cnt c f),.int .i64 x,.int .i64 y] fun r=>(r=.bD/\∃S:Nat->Bool,S x=true/\S y=false/\∀u v,u<cnt->v<cnt->S u=true->S v=false->¬f u v<c u v)∨∃p:List Nat,r=.sl (p.map eN)/\RX cnt c f x y p:=by
 refine mH.body eF rfl fun hl n0=>?_
 clear hl
 have lM:=x9 c cnt
 have jW:(0:Int)<=(cnt:Int):=by omega
 have DY:(x:Int)<(cnt:Int):=by omega
 have UP:(y:Int)<(cnt:Int):=by omega
 (try((repeat(revert hN;revert N;apply Pn.out));refine wk (tw @lW.eq_1 @lM) ?_;(repeat(refine Pn.mk ?_;intro N hN))))
 refine .inr (aE _ _ _ _ _ (fun r σ1 hq=>?_) (Ll cnt rm hn (-1) ⟨266002000,n0+1+1⟩ _ (sd @Nat.zero_add) (by(try dsimp only);omega)))
 obtain⟨o,rfl,ho,M6,Kj,jH⟩:=hq
 (try dsimp only at ho M6 Kj jH)
 refine hN _ _ ?_
 clear hN N
 have qv:=dr Kj
 have nw:(cnt:Int)<=1048576:=by omega
 have SD:qU<qU+cnt:=by omega
 have gH:List.replicate cnt [AV.int .i64 (-1)]=eC (fun _=>-1) cnt:=by
  refine List.ext_getElem? fun i=>?_
  by_cases h:i<cnt
  ·rw[ep h,List.getElem?_replicate,if_pos h];rfl
  ·rw[List.getElem?_eq_none (by simp;omega),List.getElem?_eq_none (by rw[dR];omega)]
 rw[gH]at ho
 have CF:(eC (fun _=>-1) cnt).set x (az (x:Int))=eC (fun v=>if v=x then(x:Int)else -1) cnt:=lH hx (if_pos rfl) fun v _ hv=>if_neg hv
 have hg0:=ep (f:=fun _=>-1) hx
 have tl0:=dR (fun _=>-1) cnt
 rw[az]at CF hg0
 (try((repeat(revert hN;revert N;apply Pn.out));refine wk (tw @lW.eq_1 (tw @lM (tw @jW (tw @nw @qv)))) ?_;(repeat(refine Pn.mk ?_;intro N hN))))
 refine LU ?_
 simp only[go_sem, ↓reduceIte,Nat.reduceEqDiff,Nat.reduceAdd,Nat.reduceSub,Nat.reduceLeDiff,reduceCtorEq,SD]
 refine hN _ _ ?_
 clear hN N
 (try((repeat(revert hN;revert N;apply Pn.out));refine wk (tw @ho (tw @qv (tw @CF (tw @hg0 (tw @tl0 @DY))))) ?_;(repeat(refine Pn.mk ?_;intro N hN))))
 obtain⟨C,hC⟩:∃C:Id,C=⟨266003001,σ1.next+1⟩:=⟨_,rfl⟩
 have SX:=cm (a:=o) (b:=C) (by rw[hC];(try dsimp only);omega)
 have hCv:C.bE=σ1.next+1:=by rw[hC]
 refine aZ (fun m env st=>∃(par:Nat->Int) (Q:List Nat) (i:Nat),m=cnt-i/\Bq cnt c f x par Q i/\st.get o=some ⟨true,1,eC par cnt⟩/\st.get C=some ⟨true,qU+cnt,(Q.drop i).map eN⟩/\σ1.next+1<st.next) cnt ⟨_,[x],0,rfl,Bq.start hx,sd @qv,by rw[hC];simp only[go_sem, ↓reduceIte,Nat.reduceEqDiff,Nat.reduceAdd,Nat.reduceSub,Nat.reduceLeDiff,reduceCtorEq,qv];rfl,by(try dsimp only);omega⟩ ?_
 rintro m env_b st_b ⟨par,Q,i,rfl,hB,bgo,bgC,bn⟩ bkp
 have b0:=bkp 0 (by kernel_rfl)
 have b1:=bkp 1 (by kernel_rfl)
 have b2:=bkp 2 (by kernel_rfl)
 have b7:=bkp 7 (by kernel_rfl)
 have b8:=bkp 8 (by kernel_rfl)
 have b9:=bkp 9 (by kernel_rfl)
 rw[<-hC]at b9
 simp only[go_sem, ↓reduceIte,Nat.reduceEqDiff,Nat.reduceAdd,Nat.reduceSub,Nat.reduceLeDiff,reduceCtorEq]at b0 b1 b2 b7 b8 b9
 clear bkp
 have hQn:=hB.len
 have kF:=hB.ile
 have Ut:((Q.drop i).map eN).length=Q.length-i:=by simp
 by_cases hi:i<Q.length
 ·have kK:(0:Int)<((Q.length-i:Nat):Int):=by omega
  have ta:Q.drop i=Q[i]::Q.drop (i+1):=List.drop_eq_getElem_cons hi
  obtain⟨u,hu⟩:∃u,u=Q[i]:=⟨_,rfl⟩
  have hun:u<cnt:=by rw[hu];exact hB.lt _ (List.getElem_mem hi)
  rw[<-hu]at ta
  (try((repeat(revert hN;revert N;apply Pn.out));refine wk (tw @b0 (tw @b1 (tw @b2 (tw @b7 (tw @b8 (tw @b9 (tw @bgC (tw @Ut @kK)))))))) ?_;(repeat(refine Pn.mk ?_;intro N hN))))
  refine LU ?_
  rw[ta,List.map_cons,show eN u=[.int .i64 (u:Int)]from rfl]at bgC
  simp only[go_sem, ↓reduceIte,Nat.reduceEqDiff,Nat.reduceAdd,Nat.reduceSub,Nat.reduceLeDiff,reduceCtorEq,b9,bgC]
  refine hN _ _ ?_
  clear hN N
  (try((repeat(revert hN;revert N;apply Pn.out));refine wk @b7 ?_;(repeat(refine Pn.mk ?_;intro N hN))))
  refine aZ (fun m env st=>∃(v:Nat) (par':Nat->Int) (Q':List Nat),m=cnt-v/\v<=cnt/\env 36=.int .i64 (v:Int)/\Bq cnt c f x par' Q' i/\(∃h:i<Q'.length,Q'[i]=u)/\st.get o=some ⟨true,1,eC par' cnt⟩/\st.get C=some ⟨true,qU+cnt,(Q'.drop (i+1)).map eN⟩/\σ1.next+1<st.next/\∀w,w<v->f u w<c u w->0<=par' w) cnt ⟨0,par,Q,rfl,Nat.zero_le _,by(simp only[go_sem, ↓reduceIte,Nat.reduceEqDiff,Nat.reduceAdd,Nat.reduceSub,Nat.reduceLeDiff,reduceCtorEq])<;>rfl,hB,⟨hi,hu.symm⟩,sd (tw @SX @bgo),sd @SX,by(try dsimp only);omega,fun w hw=>absurd hw (Nat.not_lt_zero w)⟩ ?_
  rintro m env_c st_c ⟨v,par',Q',rfl,hvn,c36,dM,⟨rS,Gv⟩,za,cgC,cn,dx⟩ ckp
  have c0:=ckp 0 (by kernel_rfl)
  have c1:=ckp 1 (by kernel_rfl)
  have c2:=ckp 2 (by kernel_rfl)
  have c7:=ckp 7 (by kernel_rfl)
  have c8:=ckp 8 (by kernel_rfl)
  have c9:=ckp 9 (by kernel_rfl)
  have jP:=ckp 10 (by kernel_rfl)
  have Pc:=ckp 35 (by kernel_rfl)
  simp only[go_sem, ↓reduceIte,Nat.reduceEqDiff,Nat.reduceAdd,Nat.reduceSub,Nat.reduceLeDiff,reduceCtorEq,b0,b1,b2,b7,b8,b9]at c0 c1 c2 c7 c8 c9 jP Pc
  clear ckp
  have tl:=dR par' cnt
  by_cases hv:(v:Int)<(cnt:Int)
  ·have E6:v<cnt:=by omega
   have PZ:=ep (f:=par') E6
   have jH:=Ps cnt c f u v hun E6
   have hw:IntKind.i64.wrap ((v:Int)+1)=((v+1:Nat):Int):=aD (by omega)
   rw[az]at PZ
   rw[lW]at jH
   by_cases kp:par' v<0
   ·by_cases hr:f u v<c u v
    ·rw[decide_eq_true hr]at jH
     have eL:(eC par' cnt).set v (az (u:Int))=eC (fun w=>if w=v then(u:Int)else par' w) cnt:=lH E6 (if_pos rfl) fun w _ hw=>if_neg hw
     rw[az]at eL
     have qt:=dM.visit rS E6 kp (by rw[Gv];exact hr)
     rw[Gv]at qt
     have hQ2:=qt.len
     rw[List.length_append]at hQ2
     simp only[List.length_singleton]at hQ2
     have gq:qU+(Q'.drop (i+1)).length<qU+cnt:=by rw[List.length_drop];omega
     (repeat(first|((repeat(revert hN;revert N;apply Pn.out));refine wk (tw @lW.eq_1 (tw @c0 (tw @c7 (tw @c8 (tw @c9 (tw @jP (tw @c36 (tw @Pc (tw @hv (tw @za (tw @PZ (tw @tl (tw @kp @eL))))))))))))) ?_;(repeat(refine Pn.mk ?_;intro N hN)))|((try apply Or.inl);refine⟨_,aq.x (jH) (sd (tw @lW.eq_1 (tw @c0 (tw @c7 (tw @c8 (tw @c9 (tw @jP (tw @c36 (tw @Pc (tw @hv (tw @za (tw @PZ (tw @tl (tw @kp @eL)))))))))))))),?_⟩;refine hN _ _ ?_;clear hN N)))
     refine LU ?_
     have hq:(Q'.drop (i+1)).map eN++[[.int .i64 (v:Int)]]=((Q'++[v]).drop (i+1)).map eN:=by rw[List.drop_append_of_le_length (by omega),List.map_append];rfl
     simp only[go_sem, ↓reduceIte,Nat.reduceEqDiff,Nat.reduceAdd,Nat.reduceSub,Nat.reduceLeDiff,reduceCtorEq,c9,cgC,gq,SX,hq]
     refine hN _ _ ?_
     clear hN N
     (try((repeat(revert hN;revert N;apply Pn.out));refine wk (tw @c36 @hw) ?_;(repeat(refine Pn.mk ?_;intro N hN))))
     refine⟨_,?_,v+1,_,_,rfl,E6,sd @hw,qt,⟨by rw[List.length_append];omega,by rw[List.getElem_append_left rS];exact Gv⟩,sd @SX,sd @SX,by(try dsimp only);omega,fun w hw DW=>?_⟩
     ·omega
     ·by_cases Gw:w=v
      ·rw[if_pos Gw];omega
      ·rw[if_neg Gw];exact dx w (by omega) DW
    ·rw[decide_eq_false hr]at jH
     (repeat(first|((repeat(revert hN;revert N;apply Pn.out));refine wk (tw @lW.eq_1 (tw @c0 (tw @c7 (tw @c8 (tw @c9 (tw @jP (tw @c36 (tw @Pc (tw @hv (tw @za (tw @PZ (tw @tl (tw @kp @hw))))))))))))) ?_;(repeat(refine Pn.mk ?_;intro N hN)))|((try apply Or.inl);refine⟨_,aq.x (jH) (sd (tw @lW.eq_1 (tw @c0 (tw @c7 (tw @c8 (tw @c9 (tw @jP (tw @c36 (tw @Pc (tw @hv (tw @za (tw @PZ (tw @tl (tw @kp @hw)))))))))))))),?_⟩;refine hN _ _ ?_;clear hN N)))
     refine⟨_,?_,v+1,par',Q',rfl,E6,sd @hw,dM,⟨rS,Gv⟩,sd @za,sd @cgC,by(try dsimp only);omega,fun w hw DW=>?_⟩
     ·omega
     ·by_cases Gw:w=v
      ·subst Gw;exact absurd DW hr
      ·exact dx w (by omega) DW
   ·(try((repeat(revert hN;revert N;apply Pn.out));refine wk (tw @lW.eq_1 (tw @c0 (tw @c7 (tw @c8 (tw @c9 (tw @jP (tw @c36 (tw @Pc (tw @hv (tw @za (tw @PZ (tw @tl (tw @kp @hw))))))))))))) ?_;(repeat(refine Pn.mk ?_;intro N hN))))
    refine⟨_,?_,v+1,par',Q',rfl,E6,sd @hw,dM,⟨rS,Gv⟩,sd @za,sd @cgC,by(try dsimp only);omega,fun w hw DW=>?_⟩
    ·omega
    ·by_cases Gw:w=v
     ·subst Gw;omega
     ·exact dx w (by omega) DW
  ·have hvc:v=cnt:=by omega
   subst hvc
   (try((repeat(revert hN;revert N;apply Pn.out));refine wk (tw @c36 (tw @Pc @hv)) ?_;(repeat(refine Pn.mk ?_;intro N hN))))
   refine⟨_,?_,par',Q',i+1,rfl,dM.next rS fun w hw hr=>dx w hw (by rw[<-Gv];exact hr),sd @za,sd @cgC,by(try dsimp only);omega⟩
   omega
 ·have hiQ:i=Q.length:=by omega
  subst hiQ
  have kK:¬(0:Int)<((Q.length-Q.length:Nat):Int):=by omega
  have V4:=ep (f:=par) hy
  have tl:=dR par cnt
  rw[az]at V4
  by_cases kp:par y<0
  ·(try((repeat(revert hN;revert N;apply Pn.out));refine wk (tw @b0 (tw @b1 (tw @b2 (tw @b7 (tw @b8 (tw @b9 (tw @bgC (tw @Ut (tw @kK (tw @bgo (tw @V4 (tw @tl (tw @UP @kp))))))))))))) ?_;(repeat(refine Pn.mk ?_;intro N hN))))
   exact⟨[.bD],sd @Nat.zero_add,.bD,jE _ _,.inl ⟨rfl,hB.cut hy kp⟩⟩
  ·(try((repeat(revert hN;revert N;apply Pn.out));refine wk (tw @b0 (tw @b1 (tw @b2 (tw @b7 (tw @b8 (tw @b9 (tw @bgC (tw @Ut (tw @kK (tw @bgo (tw @V4 (tw @tl (tw @UP @kp))))))))))))) ?_;(repeat(refine Pn.mk ?_;intro N hN))))
   refine aZ (fun m env st=>∃(k:Nat) (out:List Nat) (p:Id),m=Q.idxOf k/\env 13=.int .i64 (k:Int)/\env 12=.own p 0 out.length/\st.get p=some ⟨true,1,out.map eN⟩/\p.bE<st.next/\st_b.next<=p.bE/\k∈Q/\wg c f Q y k out/\st.get o=some ⟨true,1,eC par cnt⟩) (Q.idxOf y) ⟨y,[y],⟨266017001,st_b.next+1+1⟩,rfl,by(simp only[go_sem, ↓reduceIte,Nat.reduceEqDiff,Nat.reduceAdd,Nat.reduceSub,Nat.reduceLeDiff,reduceCtorEq]),by(simp only[go_sem, ↓reduceIte,Nat.reduceEqDiff,Nat.reduceAdd,Nat.reduceSub,Nat.reduceLeDiff,reduceCtorEq])<;>rfl,by(simp only[go_sem, ↓reduceIte,Nat.reduceEqDiff,Nat.reduceAdd,Nat.reduceSub,Nat.reduceLeDiff,reduceCtorEq])<;>rfl,by(try dsimp only);omega,by(try dsimp only);omega,(hB.iff y hy).1 (by omega),wg.start ((hB.iff y hy).1 (by omega)),by(have WD:=dr (i:=o) (n:=st_b.next) (by omega));simp only[go_sem, ↓reduceIte,Nat.reduceEqDiff,Nat.reduceAdd,Nat.reduceSub,Nat.reduceLeDiff,reduceCtorEq,WD,bgo]⟩ ?_
   rintro m env_d st_d ⟨k,out,p,rfl,d13,d12,dgp,dpn,dpo,hkQ,vN,dgo⟩ dkp
   have d1:=dkp 1 (by kernel_rfl)
   have d8:=dkp 8 (by kernel_rfl)
   simp only[go_sem, ↓reduceIte,Nat.reduceEqDiff,Nat.reduceAdd,Nat.reduceSub,Nat.reduceLeDiff,reduceCtorEq,b1,b8]at d1 d8
   clear dkp
   have BJ:=dr dpn
   have CI:=dr (i:=o) (n:=st_d.next) (by omega)
   have eA:=cm (a:=o) (b:=p) (by omega)
   have M1:=vN.len hB.lt
   have fP:=hB.lt k hkQ
   have jc:(out.map eN).length=out.length:=by simp
   by_cases UB:k=x
   ·have hd:decide ((k:Int)=(x:Int))=true:=decide_eq_true (by rw[UB])
    have Wr:0<out.length:=by
     obtain⟨rest,h1,_⟩:=vN
     rw[<-List.length_reverse,h1];simp
    (try((repeat(revert hN;revert N;apply Pn.out));refine wk (tw @d1 (tw @d8 (tw @d12 (tw @d13 (tw @hd @Bool.not_true))))) ?_;(repeat(refine Pn.mk ?_;intro N hN))))
    refine .inr (aE _ _ _ _ _ (fun r σ2 hq=>?_) (Ir out Wr (by omega) p _ dgp (by(try dsimp only);omega)))
    obtain⟨SJ,nH,EM⟩:=hq
    refine hN _ _ ?_
    clear hN N
    (try((repeat(revert hN;revert N;apply Pn.out));refine wk @d12 ?_;(repeat(refine Pn.mk ?_;intro N hN))))
    refine⟨[.own p 0 out.length],sd @d12,.sl (out.reverse.map eN),?_,.inr ⟨out.reverse,rfl,by subst UB;exact vN.way hB.lt⟩⟩
    exact fu (sz:=1) SJ (by simp) fun a=>Pt _ 4 a
   ·have hd:decide ((k:Int)=(x:Int))=false:=decide_eq_false fun h=>UB (by omega)
    obtain⟨u,huQ,hpu,AD,hr⟩:=hB.up k hkQ UB
    have eX:=ep (f:=par) fP
    rw[az,hpu]at eX
    have hki:(k:Int)<(cnt:Int):=by omega
    have e1:out.length+1<=16777216:=by omega
    (try((repeat(revert hN;revert N;apply Pn.out));refine wk (tw @d1 (tw @d8 (tw @d12 (tw @d13 (tw @hd (tw @Bool.not_false (tw @dgo (tw @dgp (tw @eX (tw @tl (tw @hki (tw @BJ (tw @CI (tw @eA (tw @jc @e1))))))))))))))) ?_;(repeat(refine Pn.mk ?_;intro N hN))))
    refine⟨_,AD,u,out++[u],⟨266021003,st_d.next+1+1⟩,rfl,sd @Nat.zero_add,by rw[List.length_append];simp only[go_sem, ↓reduceIte,Nat.reduceEqDiff,Nat.reduceAdd,Nat.reduceSub,Nat.reduceLeDiff,reduceCtorEq,List.length_cons,List.length_nil],by rw[List.map_append,List.map_cons,List.map_nil];simp only[go_sem, ↓reduceIte,Nat.reduceEqDiff,Nat.reduceAdd,Nat.reduceSub,Nat.reduceLeDiff,reduceCtorEq,eN],by(try dsimp only);omega,by(try dsimp only);omega,huQ,vN.step huQ AD hr,sd (tw @CI (tw @eA @dgo))⟩
theorem BX (b:Nat):∀(l:List Nat) (a:Nat) (f:Nat->Nat->Int),mL f ((a::l)++[b])=kQ (mL f (a::l)) ((a::l).getLast (by simp)) b
 |[],a,f=>rfl
 |c::l,a,f=>by
  rw[List.cons_append,List.cons_append,mL,<-List.cons_append,BX b l c (kQ f a c),mL,List.getLast_cons_cons]
theorem Hc {p:List Nat} {f:Nat->Nat->Int} {i:Nat} (h1:1<=i) (hi:i<p.length):mL f (p.take (i+1))=kQ (mL f (p.take i)) (p[i-1]'(by omega)) p[i]:=by
 rw[List.take_succ_eq_append_getElem hi]
 have gM:p.take i≠[]:=by
  intro h
  have:(p.take i).length=0:=by rw[h];rfl
  rw[List.length_take]at this;omega
 obtain⟨a,l,Um⟩:∃a l,p.take i=a::l:=by
  cases h:p.take i with
  |nil=>exact absurd h gM
  |cons a l=>exact⟨a,l,rfl⟩
 have xl:(p.take i).getLast gM=p[i-1]'(by omega):=by
  rw[List.getLast_eq_getElem,List.getElem_take]
  congr 1
  rw[List.length_take];omega
 simp only[Um]at xl ⊢
 rw[BX,xl]
theorem Io (f:Nat->Nat->Int) (a b u v:Nat):kQ f a b u v<=f u v+1/\f u v-1<=kQ f a b u v:=by
 unfold kQ bump
 split<;>split<;>constructor<;>omega
theorem mM:∀(p:List Nat) (f:Nat->Nat->Int) (u v:Nat),mL f p u v<=f u v+p.length/\f u v-p.length<=mL f p u v
 |[],f,u,v=>by simp[mL]
 |[_],f,u,v=>by simp[mL];omega
 |a::b::r,f,u,v=>by
  rw[mL]
  have h1:=mM (b::r) (kQ f a b) u v
  have h2:=Io f a b u v
  simp only[List.length_cons]at h1 ⊢
  omega
theorem ow.push {g g':Rows} {X o1 o2:Id} {R1 R2:Nat->Id} {n nb:Nat} {c f:Nat->Nat->Int} (I:G8 X o1 o2 R1 R2 n nb) (h:ow g X o1 o2 R1 R2 n c f) {a b:Nat} (ha:a<n) (hb:b<n) (rh:a≠b) (hA:g' (R2 a)=some ⟨true,1,eC (bump f a b 1 a) n⟩) (hB:g' (R2 b)=some ⟨true,1,eC (bump (bump f a b 1) b a (-1) b) n⟩) (hf:∀i:Id,i.bE<nb->(i=R2 a)=False->(i=R2 b)=False->g' i=g i):ow g' X o1 o2 R1 R2 n c (kQ f a b):=by
 have ne:∀{i:Id} {s:Nat},i.site=s->(s==245005006)=false->∀a,a<n->(i=R2 a)=False:=fun {i s} hi hs a ha=>by
  simp only[eq_iff_iff,iff_false]
  rintro rfl
  rw[I.OP a ha]at hi
  subst hi
  simp at hs
 refine⟨(hf _ I.vx (ne I.sx (by decide) _ ha) (ne I.sx (by decide) _ hb)).trans h.x,(hf _ I.v1 (ne I.s1 (by decide) _ ha) (ne I.s1 (by decide) _ hb)).trans h.t1,(hf _ I.v2 (ne I.s2 (by decide) _ ha) (ne I.s2 (by decide) _ hb)).trans h.t2,fun i hi=>(hf _ (I.UX i hi) (ne (I.UU i hi) (by decide) _ ha) (ne (I.UU i hi) (by decide) _ hb)).trans (h.r1 i hi),fun i hi=>?_⟩
 by_cases Mc:i=b
 ·subst Mc;exact hB
 ·by_cases P3:i=a
  ·subst P3
   rw[hA,kQ,km Mc]
  ·rw[kQ,km Mc,km P3,hf _ (I.RT i hi) (by simp only[eq_iff_iff,iff_false];exact fun he=>P3 (I.i2 i _ hi ha he)) (by simp only[eq_iff_iff,iff_false];exact fun he=>Mc (I.i2 i _ hi hb he))]
   exact h.r2 i hi
theorem QK (cnt:Nat) (rm:1<=cnt) (hn:cnt<=1048576) (c:Nat->Nat->Int) (hc:∀u v,u<cnt->v<cnt->0<=c u v/\c u v<=16777216) (x y:Nat) (hx:x<cnt) (hy:y<cnt) (Th:x≠y) (t:Int) (ht:t<=1099511627776)
  (X o1 o2:Id) (R1 R2:Nat->Id) (nb:Nat) (I:G8 X o1 o2 R1 R2 cnt nb) (σ:au) (hM:ow σ.get X o1 o2 R1 R2 cnt c (fun _ _=>0)) (UE:nb<=σ.next):
  Call Tryz.prog 246 [.ptr X 0 0,.int .i64 x,.int .i64 y,.int .i64 t] σ fun r σ'=>∃val:Int,r=.int .i64 val/\(val<t↔∃S:Nat->Bool,S x=true/\S y=false/\mN cnt S c<t)/\σ.next<=σ'.next:=by
 refine eJ eF rfl fun hl=>?_
 clear hl
 have hxS:(fun v=>decide (v=x)) x=true:=by simp
 have hyS:(fun v=>decide (v=x)) y=false:=by simp;exact fun h=>Th h.symm
 obtain⟨top,Wz⟩:∃top,top=mN cnt (fun v=>decide (v=x)) c:=⟨_,rfl⟩
 (try((repeat(revert hN;revert N;apply Pn.out));refine wk @Nat.zero_add ?_;(repeat(refine Pn.mk ?_;intro N hN))))
 refine aZ (fun m env st=>∃(k:Nat) (f:Nat->Nat->Int),m=(top-k).toNat/\env 9=.int .i64 (k:Int)/\lS cnt c f x y k/\ow st.get X o1 o2 R1 R2 cnt c f/\σ.next<=st.next/\(0<k->(k:Int)<=t)/\∀u v,-((k:Int)*(cnt:Int))<=f u v) (top-0).toNat ⟨0,fun _ _=>0,rfl,by(simp only[go_sem, ↓reduceIte,Nat.reduceEqDiff,Nat.reduceAdd,Nat.reduceSub,Nat.reduceLeDiff,reduceCtorEq])<;>rfl,lS.zero fun u v hu hv=>(hc u v hu hv).1,hM,by(try dsimp only);omega,fun h=>absurd h (Nat.lt_irrefl 0),fun u v=>by simp⟩ ?_
 rintro m env_b st_b ⟨k,f,rfl,b9,hF,bM,bn,bk,blo⟩ bkp
 have b0:=bkp 0 (by kernel_rfl)
 have b1:=bkp 1 (by kernel_rfl)
 have b2:=bkp 2 (by kernel_rfl)
 have b3:=bkp 3 (by kernel_rfl)
 simp only[go_sem, ↓reduceIte,Nat.reduceEqDiff,Nat.reduceAdd,Nat.reduceSub,Nat.reduceLeDiff,reduceCtorEq]at b0 b1 b2 b3
 clear bkp
 have hz:dt (dX st_b.get) 6 [.ptr X 0 0,.int .i64 (x:Int),.int .i64 (y:Int)]=some [.du (lW cnt c f),.int .i64 x,.int .i64 y]:=by simp only[ae,aj,bM.fz,aJ,Option.map_some]
 (try((repeat(revert hN;revert N;apply Pn.out));refine wk (tw @b0 (tw @b1 (tw @b2 (tw @b3 @b9)))) ?_;(repeat(refine Pn.mk ?_;intro N hN))))
 refine .inr (aE _ _ _ _ _ (fun r σ1 hq=>?_) ((TL cnt rm hn c f x y hx hy).x mixed hz))
 obtain⟨Qg,rfl⟩:=hq
 refine hN _ _ ?_
 clear hN N
 rcases Qg with⟨rfl,S,PM,PN,Uk⟩|⟨p,rfl,hW⟩
 ·(try((repeat(revert hN;revert N;apply Pn.out));refine wk (tw @b0 (tw @b1 (tw @b2 (tw @b3 (tw @b9 (tw @Bool.not_true @Bool.not_false)))))) ?_;(repeat(refine Pn.mk ?_;intro N hN))))
  refine eV (.inl rfl) (vs:=[.int .i64 (k:Int)]) (sd @Nat.zero_add) ⟨(k:Int),rfl,⟨fun h=>⟨S,PM,PN,by rw[<-hF.full PM PN Uk];exact h⟩,fun⟨S',h1,h2,h3⟩=>by have:=hF.bound h1 h2;omega⟩,by(try dsimp only);omega⟩
 ·obtain⟨⟨rs,rfl,xl⟩,mE,gq,hplt⟩:=hW
  by_cases MZ:t<=(k:Int)
  ·(try((repeat(revert hN;revert N;apply Pn.out));refine wk (tw @b0 (tw @b1 (tw @b2 (tw @b3 (tw @b9 (tw @MZ (tw @Bool.not_true @Bool.not_false))))))) ?_;(repeat(refine Pn.mk ?_;intro N hN))))
   refine eV (.inl rfl) (vs:=[.int .i64 (k:Int)]) (sd @Nat.zero_add) ⟨(k:Int),rfl,⟨fun h=>by omega,fun⟨S',h1,h2,h3⟩=>by have:=hF.bound h1 h2;omega⟩,by(try dsimp only);omega⟩
  ·(try((repeat(revert hN;revert N;apply Pn.out));refine wk (tw @b0 (tw @b1 (tw @b2 (tw @b3 (tw @b9 (tw @MZ (tw @Bool.not_true @Bool.not_false))))))) ?_;(repeat(refine Pn.mk ?_;intro N hN))))
   have me:=pw cnt _ mE hplt
   have hkc:(k:Int)*(cnt:Int)<=1099511627776*1048576:=Int.mul_le_mul (by omega) (by omega) (by omega) (by omega)
   have hfb:=hF.bound (S:=fun v=>decide (v=x)) hxS hyS
   have hnear:=mM
   obtain⟨p,hp⟩:∃p,p=x::rs:=⟨_,rfl⟩
   have hmp:eN x::List.map eN rs=p.map eN:=by rw[hp];rfl
   rw[hmp]
   have Qb:1<=p.length:=by rw[hp];simp
   have Si:=hF.aug xl mE gq hplt
   rw[<-hp]at Si mE gq hplt me
   have Ql:p.take 1=[x]:=by rw[hp];rfl
   clear hmp xl
   refine aZ (fun m env st=>∃i:Nat,m=p.length-i/\1<=i/\i<=p.length/\env 11=.int .i64 (i:Int)/\ow st.get X o1 o2 R1 R2 cnt c (mL f (p.take i))/\st_b.next<=st.next) (p.length-1) ⟨1,rfl,Nat.le_refl _,Qb,by(simp only[go_sem, ↓reduceIte,Nat.reduceEqDiff,Nat.reduceAdd,Nat.reduceSub,Nat.reduceLeDiff,reduceCtorEq])<;>rfl,by rw[Ql];exact bM,by(try dsimp only);omega⟩ ?_
   rintro m env_c st_c ⟨i,rfl,MX,kF,oE,cM,cn⟩ ckp
   have c0:=ckp 0 (by kernel_rfl)
   have c1:=ckp 1 (by kernel_rfl)
   have c2:=ckp 2 (by kernel_rfl)
   have c3:=ckp 3 (by kernel_rfl)
   have c9:=ckp 9 (by kernel_rfl)
   have jP:=ckp 10 (by kernel_rfl)
   simp only[go_sem, ↓reduceIte,Nat.reduceEqDiff,Nat.reduceAdd,Nat.reduceSub,Nat.reduceLeDiff,reduceCtorEq,b0,b1,b2,b3,b9]at c0 c1 c2 c3 c9 jP
   clear ckp
   have jc:(p.map eN).length=p.length:=by simp
   by_cases hi:(i:Int)<(p.length:Int)
   ·have fe:i<p.length:=by omega
    have yN:=Hc (f:=f) MX fe
    obtain⟨a,ha⟩:∃a,a=p[i-1]'(by omega):=⟨_,rfl⟩
    obtain⟨b,hb⟩:∃b,b=p[i]:=⟨_,rfl⟩
    have Gk:a<cnt:=by rw[ha];exact hplt _ (List.getElem_mem _)
    have DS:b<cnt:=by rw[hb];exact hplt _ (List.getElem_mem _)
    have rh:a≠b:=by
     rw[ha,hb]
     exact List.pairwise_iff_getElem.1 mE (i-1) i (by omega) fe (by omega)
    have SK:(p.map eN)[i-1]? =some [.int .i64 (a:Int)]:=by rw[List.getElem?_map,List.getElem?_eq_getElem (by omega),ha];rfl
    have SM:(p.map eN)[i]? =some [.int .i64 (b:Int)]:=by rw[List.getElem?_map,List.getElem?_eq_getElem fe,hb];rfl
    rw[<-ha,<-hb]at yN
    have Wg:=mM (p.take i) f a b
    have Wh:=mM (p.take i) f b a
    rw[List.length_take]at Wg Wh
    have hl1:=blo b a
    have V9:=blo a b
    have Ta:=hF.le a b Gk DS
    have hu2:=hF.le b a DS Gk
    have hca:=hc a b Gk DS
    have Gl:=hc b a DS Gk
    generalize mL f (p.take i)=fl at *
    have gA:=sZ (R:=R2) (n:=cnt) Gk
    have gB:=sZ (R:=R2) (n:=cnt) DS
    have rA:=cM.r2 _ Gk
    have rB:=cM.r2 _ DS
    have cA:=ep (f:=fl a) DS
    have cB:=ep (f:=fl b) Gk
    have sA:=oZ (f:=fl) (a:=a) (d:=1) DS
    have P9:bump fl a b 1 b=fl b:=km fun h=>rh h.symm
    have sB:=oZ (f:=bump fl a b 1) (a:=b) (b:=a) (d:=-1) (n:=cnt) Gk
    rw[P9]at sB
    have gX:=cM.x
    have g2:=cM.t2
    have gW:(a:Int)<(cnt:Int):=by omega
    have gm:(b:Int)<(cnt:Int):=by omega
    have UO:IntKind.i64.wrap ((i:Int)-1)=((i-1:Nat):Int):=by rw[bI (by omega)];omega
    have vV:((i-1:Nat):Int)<(p.length:Int):=by omega
    have wA:IntKind.i64.wrap (fl a b+1)=fl a b+1:=bI (by omega)
    have wB:IntKind.i64.wrap (fl b a-1)=fl b a+-1:=by rw[bI (by omega)];omega
    have Qp:IntKind.i64.wrap ((i:Int)+1)=((i+1:Nat):Int):=aD (by omega)
    have l2:=kE R2 cnt cnt
    have lA:=dR (fl a) cnt
    have lB:=dR (fl b) cnt
    have gM:(R2 a=R2 b)=False:=by simp only[eq_iff_iff,iff_false];exact fun h=>rh (I.i2 _ _ Gk DS h)
    have Kh:(R2 b=R2 a)=False:=by simp only[eq_iff_iff,iff_false];exact fun h=>rh (I.i2 _ _ Gk DS h.symm)
    have xA:=Bf I.sx (I.OP a Gk) (by decide)
    have xB:=Bf I.sx (I.OP b DS) (by decide)
    have yA:=Bf I.s2 (I.OP a Gk) (by decide)
    have yB:=Bf I.s2 (I.OP b DS) (by decide)
    have qX:=dr (i:=X) (n:=st_c.next) (by have:=I.vx;omega)
    have q2:=dr (i:=o2) (n:=st_c.next) (by have:=I.v2;omega)
    have qA:=dr (i:=R2 a) (n:=st_c.next) (by have:=I.RT a Gk;omega)
    have qB:=dr (i:=R2 b) (n:=st_c.next) (by have:=I.RT b DS;omega)
    rw[az]at cA cB sA sB
    (try((repeat(revert hN;revert N;apply Pn.out));refine wk (tw @c0 (tw @c9 (tw @jP (tw @oE (tw @jc (tw @hi (tw @vV (tw @SK (tw @SM (tw @gA (tw @gB (tw @rA (tw @rB (tw @cA (tw @cB (tw @sA (tw @sB (tw @gX (tw @g2 (tw @gW (tw @gm (tw @UO (tw @wA (tw @wB (tw @Qp (tw @l2 (tw @lA (tw @lB (tw @gM (tw @Kh (tw @xA (tw @xB (tw @yA (tw @yB (tw @qX (tw @q2 (tw @qA @qB))))))))))))))))))))))))))))))))))))) ?_;(repeat(refine Pn.mk ?_;intro N hN))))
    refine⟨_,?_,i+1,rfl,by omega,by omega,sd @Qp,?_,by(try dsimp only);omega⟩
    ·omega
    ·rw[yN]
     refine cM.push I Gk DS rh ?_ ?_ fun j hj h1 h2=>?_
     ·simp only[go_sem, ↓reduceIte,Nat.reduceEqDiff,Nat.reduceAdd,Nat.reduceSub,Nat.reduceLeDiff,reduceCtorEq,gM]
     ·simp only[go_sem, ↓reduceIte,Nat.reduceEqDiff,Nat.reduceAdd,Nat.reduceSub,Nat.reduceLeDiff,reduceCtorEq,gM]
     ·simp only[go_sem, ↓reduceIte,Nat.reduceEqDiff,Nat.reduceAdd,Nat.reduceSub,Nat.reduceLeDiff,reduceCtorEq,h1,h2]
   ·have IX:i=p.length:=by omega
    subst IX
    rw[List.take_length]at cM
    have Qq:IntKind.i64.wrap ((k:Int)+1)=((k+1:Nat):Int):=aD (by omega)
    have VX:=Si.bound (S:=fun v=>decide (v=x)) hxS hyS
    (try((repeat(revert hN;revert N;apply Pn.out));refine wk (tw @c0 (tw @c9 (tw @jP (tw @oE (tw @jc (tw @hi @Qq)))))) ?_;(repeat(refine Pn.mk ?_;intro N hN))))
    refine⟨_,?_,k+1,_,rfl,sd @Qq,by rw[Int.natCast_add];exact Si,cM,by(try dsimp only);omega,fun _=>by omega,fun u v=>?_⟩
    ·rw[<-Wz]at VX;omega
    ·have h1:=(mM p f u v).2
     have h2:=blo u v
     rw[Int.natCast_add,Int.add_mul]
     omega
noncomputable def uz (n:Nat) (bs:List PB) (t:Int):Bool:=@decide (la n bs t) (Classical.propDecidable _)
theorem zl {n:Nat} {bs:List PB} {t:Int} (h:la n bs t):true=uz n bs t:=by simp[uz,h]
theorem CC {n:Nat} {bs:List PB} {t:Int} (h:¬la n bs t):false=uz n bs t:=by simp[uz,h]
theorem M3 (cnt:Nat) (hn:cnt<=1048576) (bs:List PB) (hb:∀b∈bs,b.a<cnt/\b.b<cnt) (dJ:∀b∈bs,0<=b.s/\b.s<=4) (qE:bs.length<=1048576) (t:Int) (ht:t<=1099511627776):
  aq Tryz.prog 223 [.int .i64 cnt,.sl (bs.map aH),.int .i64 t] (.bool (uz cnt bs t)):=by
 refine aq.body eF rfl fun hl n0=>?_
 clear hl
 have rl:=A7 bs (fun _ _=>0) (fun b h=>(dJ b h).1) (fun _ _=>Int.le_refl _)
 have hle:=room_le bs (fun _ _=>0) 0 (fun b h=>(dJ b h).2) (fun _ _=>Int.le_refl _) (Int.le_refl _)
 have gq:bs.foldl oy (fun _ _=>0)=lE bs:=rfl
 rw[gq]at rl hle
 (try((repeat(revert hN;revert N;apply Pn.out));refine wk @Nat.zero_add ?_;(repeat(refine Pn.mk ?_;intro N hN))))
 refine aZ (fun m env st=>∃y:Nat,m=cnt+1-y/\1<=y/\env 7=.int .i64 (y:Int)/\y<=cnt+1/\∀z,1<=z->z<y->z<cnt->∀S:Nat->Bool,S 0=true->S z=false->t<=jt S bs) (cnt+1-1) ⟨1,rfl,Nat.le_refl _,by(simp only[go_sem, ↓reduceIte,Nat.reduceEqDiff,Nat.reduceAdd,Nat.reduceSub,Nat.reduceLeDiff,reduceCtorEq])<;>rfl,by omega,fun z h1 h2=>by omega⟩ ?_
 rintro m env_b st_b ⟨y,rfl,RN,b7,hyl,dx⟩ bkp
 have b0:=bkp 0 (by kernel_rfl)
 have b1:=bkp 1 (by kernel_rfl)
 have b2:=bkp 2 (by kernel_rfl)
 simp only[go_sem, ↓reduceIte,Nat.reduceEqDiff,Nat.reduceAdd,Nat.reduceSub,Nat.reduceLeDiff,reduceCtorEq]at b0 b1 b2
 clear bkp
 by_cases hy:(y:Int)<(cnt:Int)
 ·have hyn:y<cnt:=by omega
  (try((repeat(revert hN;revert N;apply Pn.out));refine wk (tw @b0 (tw @b1 (tw @b2 (tw @b7 @hy)))) ?_;(repeat(refine Pn.mk ?_;intro N hN))))
  refine .inr (aE _ _ _ _ _ (fun r σ1 hq=>?_) (Dd cnt (by omega) hn bs hb dJ qE _))
  obtain⟨X,o1,o2,R1,R2,rfl,I,HF,hM,_⟩:=hq
  refine hN _ _ ?_
  clear hN N
  (try((repeat(revert hN;revert N;apply Pn.out));refine wk (tw @b0 (tw @b1 (tw @b2 @b7))) ?_;(repeat(refine Pn.mk ?_;intro N hN))))
  have S6:=QK cnt (by omega) hn (lE bs) (fun u v _ _=>⟨rl u v,by have:=hle u v;omega⟩) 0 y (by omega) hyn (by omega) t ht X o1 o2 R1 R2 σ1.next I
  refine .inr (aE _ _ _ _ _ (fun r σ2 hq=>?_) (S6 _ hM (by(try dsimp only);omega)))
  obtain⟨val,rfl,pj,nH⟩:=hq
  refine hN _ _ ?_
  clear hN N
  by_cases ew:val<t
  ·(try((repeat(revert hN;revert N;apply Pn.out));refine wk (tw @b0 (tw @b1 (tw @b2 (tw @b7 @ew)))) ?_;(repeat(refine Pn.mk ?_;intro N hN))))
   obtain⟨S,h1,h2,h3⟩:=pj.1 ew
   rw[Cc hb]at h3
   exact bc (b:=false) (.inl rfl) (sd @Nat.zero_add) (CC fun h=>by have:=h S h1 ⟨y,hyn,h2⟩;omega)
  ·have hw:IntKind.i64.wrap ((y:Int)+1)=((y+1:Nat):Int):=aD (by omega)
   (try((repeat(revert hN;revert N;apply Pn.out));refine wk (tw @b0 (tw @b1 (tw @b2 (tw @b7 (tw @ew @hw))))) ?_;(repeat(refine Pn.mk ?_;intro N hN))))
   refine⟨_,?_,y+1,rfl,by omega,sd (tw @b7 @hw),by omega,fun z h1 h2 h3 S PM PN=>?_⟩
   ·omega
   ·by_cases hzy:z=y
    ·subst hzy
     rcases Int.lt_or_le (jt S bs) t with h|h
     ·exact absurd (pj.2 ⟨S,PM,PN,by rw[Cc hb];exact h⟩) ew
     ·exact h
    ·exact dx z h1 (by omega) h3 S PM PN
 ·(try((repeat(revert hN;revert N;apply Pn.out));refine wk (tw @b0 (tw @b1 (tw @b2 (tw @b7 @hy)))) ?_;(repeat(refine Pn.mk ?_;intro N hN))))
  exact bc (b:=true) (.inl rfl) (sd @Nat.zero_add) (zl fun S h0 ⟨z,hz,hzf⟩=>by
   have:z≠0:=by rintro rfl;rw[h0]at hzf;cases hzf
   exact dx z (by omega) (by omega) hz S h0 hzf)
theorem Ki (cnt:Nat) (hn:cnt<=1048576) (bs:List PB) (hb:∀b∈bs,b.a<cnt/\b.b<cnt) (dJ:∀b∈bs,0<=b.s/\b.s<=4) (qE:bs.length<=1048576) (t:Int) (ht:t<=1099511627776):
  aq Tryz.prog 223 [.int .i64 cnt,Bc bs,.int .i64 t] (.bool (uz cnt bs t)):=by
 have h:=M3 cnt hn bs hb dJ qE t ht
 cases bs with
 |nil=>exact h.cut mixed (.same _ (.bD (.same _ .nil)))
 |cons b r=>rw[Bd (by simp)];exact h
def D5:Prop:=∀(s:ax) (l:List ab),iH s->lN s l->aq Tryz.prog 222 [.agg (ad s),.agg [.sl (l.map aa)]] (Bc (dn s l))
noncomputable def vY (s:ax) (l:List ab) (t:Int):Bool:=if 64<iN s l t then false else uz (iN s l t) (dF (eO (aV t (dn s l))) (dn s l)) t
theorem E9 (s:ax) (l:List ab) (t:Int):vY s l t=ot s l t:=by
 letI:=Classical.propDecidable (pU l.length (dn s l) t)
 unfold vY
 by_cases h:64<iN s l t
 ·rw[if_pos h]
  exact(nj (p:=False) ⟨False.elim,fun k=>by have:=k.1;unfold iN at h;omega⟩).symm.trans (by simp) |>.symm
 ·rw[if_neg h]
  by_cases hp:la (iN s l t) (dF (eO (aV t (dn s l))) (dn s l)) t
  ·rw[<-zl hp]
   exact((nj (p:=True) ⟨fun _=>⟨by unfold iN at h;omega,hp⟩,fun _=>trivial⟩).symm.trans (by simp)).symm
  ·rw[<-CC hp]
   exact((nj (p:=False) ⟨False.elim,fun k=>hp k.2⟩).symm.trans (by simp)).symm
theorem Lv (Vn:D5) (s:ax) (l:List ab) (t:Int) (ht:t<=1099511627776) (h1:1<=l.length) (hS:iH s) (hA:lN s l):aq Tryz.prog 197 [.agg (ad s),.agg [.sl (l.map aa)],.int .i64 t] (.gD [.bool (ot s l t),.bool (decide ¬64<iN s l t)]):=by
 rw[<-E9]
 refine aq.body eF rfl fun hl n0=>?_
 clear hl
 have hb:=y7 (l:=l) hS
 have qE:=qL (s:=s) hA.1
 have PX:=hA.1.yi
 have om:=Vn s l hS hA
 have SD:=Aq l.length h1 (by omega) (dn s l) (fun b h=>⟨(hb b h).1,(hb b h).2.1⟩) (by omega) t
 have hL:=uC (aV t (dn s l))
 have fe:=FG hL (fun b h=>⟨(hb b h).1,(hb b h).2.1⟩)
 have hlen:=(nR (eO (aV t (dn s l))) (dn s l)).1
 have nG:=j7 l.length (eO (aV t (dn s l)))
 have hho:=Ki (iN s l t) (by unfold iN;omega) (dF (eO (aV t (dn s l))) (dn s l)) (fun b h=>⟨(fe b h).1,(fe b h).2.1⟩) (fun b h=>by
  obtain⟨_,_,_,c,hc,dC⟩:=fe b h
  rw[dC];have:=hb c hc;omega) (by omega) t ht
 have gn:(l.map aa).length=l.length:=by simp
 have hzB:∀(g:Rows) (n:Nat) (bs:List PB),V.fz g (n+1) (Bc bs)=some (Bc bs):=fun g n bs=>by
  unfold Bc;split
  ·exact aY _ _
  ·exact cr _ _ _
 rw[ad]at om
 rw[<-iN]at SD
 have zp:∀(g:Rows) (x:Int),dt (dX g) 6 [.int .i64 l.length,Bc (dn s l),.int .i64 x]=some [.int .i64 l.length,Bc (dn s l),.int .i64 x]:=fun g x=>by simp only[ae,aj,aJ,hzB,Option.map_some]
 have hzh:∀(g:Rows) (x y:Int),dt (dX g) 6 [.int .i64 x,Bc (dF (eO (aV t (dn s l))) (dn s l)),.int .i64 y]=some [.int .i64 x,Bc (dF (eO (aV t (dn s l))) (dn s l)),.int .i64 y]:=fun g x y=>by simp only[ae,aj,aJ,hzB,Option.map_some]
 generalize Bc (dn s l)=B1 at *
 generalize Bc (dF (eO (aV t (dn s l))) (dn s l))=B2 at *
 by_cases uV:(64:Int)<(iN s l t:Int)
 ·have uW:64<iN s l t:=by omega
  (repeat(first|((repeat(revert hN;revert N;apply Pn.out));refine wk (tw @ad.eq_1 (tw @uV @gn)) ?_;(repeat(refine Pn.mk ?_;intro N hN)))|((try apply Or.inl);refine⟨_,aq.x (om) (sd (tw @ad.eq_1 (tw @uV @gn))),?_⟩;refine hN _ _ ?_;clear hN N)))
  refine⟨_,aq.x SD (zp _ _),?_⟩
  refine hN _ _ ?_
  clear hN N
  (try((repeat(revert hN;revert N;apply Pn.out));refine wk @uV ?_;(repeat(refine Pn.mk ?_;intro N hN))))
  exact jL (.inl rfl) (r1:=.bool false) (r2:=.bool false) (sd @Nat.zero_add) (sd @Nat.zero_add) (by rw[vY,if_pos uW,decide_eq_false fun h=>h uW];simp only[e9,bt,cz,gh,Option.map_some])
 ·have uW:¬64<iN s l t:=by omega
  (repeat(first|((repeat(revert hN;revert N;apply Pn.out));refine wk (tw @ad.eq_1 (tw @uV @gn)) ?_;(repeat(refine Pn.mk ?_;intro N hN)))|((try apply Or.inl);refine⟨_,aq.x (om) (sd (tw @ad.eq_1 (tw @uV @gn))),?_⟩;refine hN _ _ ?_;clear hN N)))
  refine⟨_,aq.x SD (zp _ _),?_⟩
  refine hN _ _ ?_
  clear hN N
  (try((repeat(revert hN;revert N;apply Pn.out));refine wk @uV ?_;(repeat(refine Pn.mk ?_;intro N hN))))
  refine .inl ⟨_,aq.x hho (hzh _ _ _),?_⟩
  refine hN _ _ ?_
  clear hN N
  (try((repeat(revert hN;revert N;apply Pn.out));refine wk @Nat.zero_add ?_;(repeat(refine Pn.mk ?_;intro N hN))))
  exact jL (.inl rfl) (r1:=.bool (uz (iN s l t) (dF (eO (aV t (dn s l))) (dn s l)) t)) (r2:=.bool true) (sd @Nat.zero_add) (sd @Nat.zero_add) (by rw[vY,if_neg uW,decide_eq_true uW];simp only[e9,bt,cz,gh,Option.map_some])
theorem vg (t:Int):aq Tryz.prog 196 [.int .i64 t] (.bool (jl t 1 16)):=by
 refine aq.body eF rfl fun hl n0=>?_
 clear hl
 have h:=lI t 1 16
 (repeat(first|((repeat(revert hN;revert N;apply Pn.out));refine wk @Nat.zero_add ?_;(repeat(refine Pn.mk ?_;intro N hN)))|((try apply Or.inl);refine⟨_,aq.x (h) (sd @Nat.zero_add),?_⟩;refine hN _ _ ?_;clear hN N)))
 exact bc (b:=jl t 1 16) (.inl rfl) (sd @Nat.zero_add) rfl
theorem yq (Vn:D5) (s:aw) (hn:fm s.aI) (hg:s.aI.aB.length<=1048576) (ht:s.aI.ai.length<=1048576) (hs:∀t∈s.aI.ai,t.bL.length<=1048576) (hl:s.bh.ai.length<=1048576):aq Tryz.prog 105 [.agg (ar s)] (.bool (nT s)):=by
 refine aq.body eF rfl fun iQ n0=>?_
 clear iQ
 by_cases h0:(s.bh.ai.length:Int)=0
 ·have hd:decide ((s.bh.ai.length:Int)=0)=true:=decide_eq_true h0
  (try((repeat(revert hN;revert N;apply Pn.out));refine wk (tw @ar.eq_1 @hd) ?_;(repeat(refine Pn.mk ?_;intro N hN))))
  exact bc (b:=false) (.inl rfl) (sd @Nat.zero_add) (kh fun h=>by have:=h.some;omega)
 have hd:decide ((s.bh.ai.length:Int)=0)=false:=decide_eq_false h0
 have PO:=uO s.aI s.bh.ai hn hg ht hs hl
 have Sq:=vg s.ay
 have key:aq Tryz.prog 163 [.agg (ad s.aI),.agg [.sl (s.bh.ai.map aa)],.int .i64 s.ay] (.gD [.bool (nT s),.int .i64 (if sR s.aI&&tp s.aI s.bh.ai then(if jl s.ay 1 16 then(if 64<iN s.aI s.bh.ai s.ay then 4 else 0)else 2)else 1)]):=by
  refine aq.body eF rfl fun iQ n0=>?_
  clear iQ
  rw[ad]at PO
  cases hA:sR s.aI&&tp s.aI s.bh.ai
  ·rw[hA]at PO
   have kq:nT s=false:=(kh fun h=>by rw[pI.2 h.set,oY.2 h.yU]at hA;cases hA).symm
   (repeat(first|((repeat(revert hN;revert N;apply Pn.out));refine wk @ad.eq_1 ?_;(repeat(refine Pn.mk ?_;intro N hN)))|((try apply Or.inl);refine⟨_,aq.x (PO) (sd @ad.eq_1),?_⟩;refine hN _ _ ?_;clear hN N)))
   exact jL (.inl rfl) (r1:=.bool false) (r2:=.int .i64 1) (sd @Nat.zero_add) (sd @Nat.zero_add) (by rw[kq];simp only[e9,bt,cz,gh,er,Option.map_some];rfl)
  rw[hA]at PO
  simp only[Bool.and_eq_true]at hA
  have hS:=pI.1 hA.1
  have hP:=oY.1 hA.2
  cases hT:jl s.ay 1 16
  ·rw[hT]at Sq
   have kq:nT s=false:=(kh fun h=>by have:=h.QS;rw[hT]at this;cases this).symm
   (repeat(first|((repeat(revert hN;revert N;apply Pn.out));refine wk @ad.eq_1 ?_;(repeat(refine Pn.mk ?_;intro N hN)))|((try apply Or.inl);refine⟨_,aq.x (PO) (sd @ad.eq_1),?_⟩;refine hN _ _ ?_;clear hN N)|((try apply Or.inl);refine⟨_,aq.x (Sq) (sd @ad.eq_1),?_⟩;refine hN _ _ ?_;clear hN N)))
   exact jL (.inl rfl) (r1:=.bool false) (r2:=.int .i64 2) (sd @Nat.zero_add) (sd @Nat.zero_add) (by rw[kq];simp only[e9,bt,cz,gh,er,Option.map_some];rfl)
  have E4:=eM hT
  rw[hT]at Sq
  have dJ:=Lv Vn s.aI s.bh.ai s.ay (by omega) (by omega) hS hP
  rw[ad]at dJ
  have hsy:nT s=ot s.aI s.bh.ai s.ay:=by
   cases hB:ot s.aI s.bh.ai s.ay
   ·exact(kh fun h=>by have:=qj.2 h.holds;rw[hB]at this;cases this).symm
   ·exact(Dy ⟨hS,hP,by omega,hT,qj.1 hB⟩).symm
  by_cases uV:64<iN s.aI s.bh.ai s.ay
  ·rw[decide_eq_false fun h=>h uV]at dJ
   have kq:nT s=false:=(kh fun h=>by have:=h.holds.1;unfold iN at uV;omega).symm
   (repeat(first|((repeat(revert hN;revert N;apply Pn.out));refine wk @ad.eq_1 ?_;(repeat(refine Pn.mk ?_;intro N hN)))|((try apply Or.inl);refine⟨_,aq.x (PO) (sd @ad.eq_1),?_⟩;refine hN _ _ ?_;clear hN N)|((try apply Or.inl);refine⟨_,aq.x (Sq) (sd @ad.eq_1),?_⟩;refine hN _ _ ?_;clear hN N)|((try apply Or.inl);refine⟨_,aq.x (dJ) (sd @ad.eq_1),?_⟩;refine hN _ _ ?_;clear hN N)))
   exact jL (.inl rfl) (r1:=.bool false) (r2:=.int .i64 4) (sd @Nat.zero_add) (sd @Nat.zero_add) (by rw[kq,if_pos uV];simp only[e9,bt,cz,gh,er,Option.map_some])
  ·rw[decide_eq_true uV,<-hsy]at dJ
   (repeat(first|((repeat(revert hN;revert N;apply Pn.out));refine wk @ad.eq_1 ?_;(repeat(refine Pn.mk ?_;intro N hN)))|((try apply Or.inl);refine⟨_,aq.x (PO) (sd @ad.eq_1),?_⟩;refine hN _ _ ?_;clear hN N)|((try apply Or.inl);refine⟨_,aq.x (Sq) (sd @ad.eq_1),?_⟩;refine hN _ _ ?_;clear hN N)|((try apply Or.inl);refine⟨_,aq.x (dJ) (sd @ad.eq_1),?_⟩;refine hN _ _ ?_;clear hN N)))
   exact jL (.inl rfl) (r1:=.bool (nT s)) (r2:=.int .i64 0) (sd @Nat.zero_add) (sd @Nat.zero_add) (by rw[if_neg uV];simp only[e9,bt,cz,gh,er,Option.map_some])
 generalize hcode:(if sR s.aI&&tp s.aI s.bh.ai then(if jl s.ay 1 16 then(if 64<iN s.aI s.bh.ai s.ay then(4:Int)else 0)else 2)else 1)=code at key
 rw[ad]at key
 cases hB:nT s
 ·rw[hB]at key
  (repeat(first|((repeat(revert hN;revert N;apply Pn.out));refine wk (tw @ar.eq_1 @hd) ?_;(repeat(refine Pn.mk ?_;intro N hN)))|((try apply Or.inl);refine⟨_,aq.x (key) (sd (tw @ar.eq_1 @hd)),?_⟩;refine hN _ _ ?_;clear hN N)))
  exact bc (b:=false) (.inl rfl) (sd @Nat.zero_add) rfl
 ·rw[hB]at key
  have hP:=sY.1 hB
  have hc:code=0:=by
   rw[<-hcode,pI.2 hP.set,oY.2 hP.yU,hP.QS]
   have:=hP.holds.1
   simp only[Bool.and_self,if_true]
   rw[if_neg (by unfold iN;omega)]
  rw[hc]at key
  (repeat(first|((repeat(revert hN;revert N;apply Pn.out));refine wk (tw @ar.eq_1 @hd) ?_;(repeat(refine Pn.mk ?_;intro N hN)))|((try apply Or.inl);refine⟨_,aq.x (key) (sd (tw @ar.eq_1 @hd)),?_⟩;refine hN _ _ ?_;clear hN N)))
  exact bc (b:=true) (.inl rfl) (sd @Nat.zero_add) rfl
end Go.Proofs.YtgoelphibofcmaaGreat.V

namespace Go.Proofs.YtgoelphibofcmaaGreat.V
open Go.RowKit
variable {P:Program} {hs:Nat}
theorem IQ {q n i:Nat} {ops:Array Oper} {Q:Exit->Act->World->Prop} {K K':Act->World->Prop} {a:Act} {w:World} (mE:∀(j:Nat) (o:Oper),ops[j]? =some o->∀c,o.op≠.defer c) (kq:¬LetsOut Q) (hK:∀a w,K a w->K' a w) (h:wpOp P ops Q i K a w):wpOpIn (Fence.wide.inRound q) n P ops Q i K' a w:=by
 unfold wpOp at h
 unfold wpOpIn
 split at h
 ·rename_i ho;simp only[ho];exact hK _ _ h
 ·rename_i o ho
  simp only[ho]
  split at h
  ·rename_i hw
   rw[if_pos hw]
   replace h:=h.resolve_right fun hc=>kq hc.2
   refine⟨fun _ _=>trivial,?_⟩
   rw[Oper.semAt_eq _ _ _ (mE i o ho)]
   unfold Oper.wp at h
   generalize (execOp a.eval o).run P w=r at *
   cases r with
   |ok m w'=>
    cases m<;>simp only[Oper.upon,Oper.uponIn]at h ⊢
    case value=>exact hK _ _ h
    case skip=>exact hK _ _ h
    case defer=>exact hK _ _ h
    case enter f args=>
     refine⟨fun h=>by simp[Fence.wide]at h,CallsIn.inRound q (callsIn_wide.2 (h.mono fun e Mj he=>?_))⟩
     cases e with
     |returned v=>exact hK _ _ he
     |panicked c=>exact he
     |outgrown=>exact he
    case row r args=>exact⟨fun h=>by simp[Fence.wide]at h,fun c cs _=>let ⟨v,Mj,h1,s⟩:=h c cs;⟨v,Mj,hK _ _ h1,stepsIn_wide.2 s⟩⟩
   |halt x w'=>cases x<;>simp only[Oper.upon,Oper.uponIn]at h ⊢;exact h
  ·rename_i hw
   rw[if_neg hw]
   exact⟨fun _ _=>trivial,hK _ _ h⟩
theorem yh {q n:Nat} {md:Region.Mode} {ops:Array Oper} {Q:Exit->Act->World->Prop} (mE:∀(j:Nat) (o:Oper),ops[j]? =some o->∀c,o.op≠.defer c) (kq:¬LetsOut Q):∀(fuel:Nat) (listed:Array Bool) (a:Act) (w:World),wpAny P md ops Q fuel listed a w->wpAnyIn (Fence.wide.inRound q) n P md ops Q fuel listed a w
 |0,_,_,_,h=>h
 |fuel+1,listed,_,_,h=>⟨h.1,fun i hi=>IQ mE kq (fun a w=>yh mE kq fuel _ a w) (h.2 i hi)⟩
def GC:Op->Bool
 | .defer _=>true
 |_=>false
theorem KV {ops:Array Oper} (h:(ops.all fun o=> !GC o.op)=true):∀(j:Nat) (o:Oper),ops[j]? =some o->∀c,o.op≠.defer c:=fun j o hj c hc=>by
 have:=Array.all_eq_true_iff_forall_mem.1 h o (Array.mem_of_getElem? hj)
 rw[hc]at this
 simp[GC]at this
theorem A5 (hm:P.follows .mixedOrders=true) {nt site0 id q n:Nat} {ops:Array Oper} {vl:List br} (h:r5 P nt site0 ops true false=some vl) (mE:∀(j:Nat) (o:Oper),ops[j]? =some o->∀c,o.op≠.defer c)
  {K:Env->au->Prop} {env:Env} {σ:au} {a:Act} {w:World} {D:Nat->Prop} {ι:Names} {Q:Exit->Act->World->Prop} (hv:wpOps (Sound P) true vl K env σ) (dJ:St P hs nt D ι env σ a w)
  (hK:∀iU σ' a' w' D' ι',K iU σ'->Step hs D ι w D' ι' w'->St P hs nt D' ι' iU σ' a' w'->a'.defers=a.defers->Q .normal a' w'):(Code.region id ops true).wpIn (Fence.wide.inRound q) n P Q a w:=by
 have dx:∃hidden ue,allM (lh P ops nt site0 true false (jR ops) hidden) ops.toList 0=some ue/\vl=ue/\pb ops ue (jR ops)=true:=by
  unfold r5 at h
  simp only[if_true,Bool.not_true,Bool.false_or]at h
  split at h
  ·rename_i ue h'
   split at h
   ·rename_i xn;simp at h;exact⟨_,ue,h',h.symm,xn⟩
   ·cases h
  ·cases h
 obtain⟨hidden,ue,dx,rfl,xn⟩:=dx
 obtain⟨si,T0⟩:=dJ.drew
 obtain⟨hlen,_⟩:=oV dx
 have ll:vl.length=ops.size:=by rw[hlen];simp
 have EH:=yg (X:=Sound P) (K:=K) (n:=σ.next) xn ll vl 0 (Array.replicate ops.size false) env σ.get (by simp) (by simp) (fun i hi=>by simp[hi]) (by simp[ll]) (fun k i h=>by
  exfalso
  rcases Nat.lt_or_ge k ops.size with hk|hk
  ·simp[hk]at h
  ·simp[Nat.not_lt.2 hk]at h) hv
 rw[ll]at EH
 have hw:=yZ (Q:=fun e a w=>e=.normal/\Q .normal a w) dx ops.size _ env σ.get a w.drew D ι (fun _=>False) EH si.tX si.used (fun _ h=>h.elim) si.env si.size fun ju g1 a1 w1 D1 ι1 U1 hk T S1 Va E1 BL hd=>⟨rfl,hK ju ⟨g1,σ.next+1⟩ a1 w1 D1 ι1 hk (T0.trans T) ⟨S1,Va.next,E1,BL⟩ hd⟩
 have fe:=yh (q:=q) (n:=n) (Q:=fun e a w=>e=.normal/\Q .normal a w) mE (by rintro⟨_,_,hc,_⟩;cases hc) ops.size _ a w.drew hw
 refine wpIn_mono (wpIn_region_any (id:=id) hm fe) ?_
 rintro e a w ⟨rfl,h⟩
 exact h
end Go.Proofs.YtgoelphibofcmaaGreat.V

namespace Go.Proofs.YtgoelphibofcmaaGreat.V
open Go.RowKit Go.Shelf
attribute [local go_sem] Oper.semAt_some
def iL (n₀:Nat) (W W':World):Prop:=W.heap.size<=W'.heap.size/\(∀(b:Nat) (cells:Array Value) (T:TypeId) (fr:Nat×Nat),W.heap[b]? =some (Obj.cells cells T fr)->T≠226->T≠246->W'.heap[b]? =W.heap[b]?)/\∀k,k<n₀->k<W.heap.size->W'.heap[k]? =W.heap[k]?
theorem iL.trans {n₀:Nat} {A B C:World} (h:iL n₀ A B) (k:iL n₀ B C):iL n₀ A C:=⟨Nat.le_trans h.1 k.1,fun b cells T fr hb h1 h2=>by
 have e:=h.2.1 b cells T fr hb h1 h2
 rw[<-e]at hb ⊢
 exact k.2.1 b cells T fr hb h1 h2,fun b hb hs=>(k.2.2 b hb (Nat.lt_of_lt_of_le hs h.1)).trans (h.2.2 b hb hs)⟩
theorem iL.of {n₀:Nat} {W W':World} (h:Below W.heap.size W W'):iL n₀ W W':=⟨h.size,fun b cells T fr hb _ _=>h.block b (Array.getElem?_eq_some_iff.1 hb).1,fun k _ hs=>h.block k hs⟩
theorem iL.refl (n₀:Nat) (W:World):iL n₀ W W:=⟨Nat.le_refl _,fun _ _ _ _ _ _ _=>rfl,fun _ _ _=>rfl⟩
theorem iL.b {n₀ m:Nat} (hm:n₀<=m) (W:World) (l:Nat) (o o':Obj) (hl:m<=l) (h:W.heap[l]? =some o) (hc:o.isCells=false) (_:o.isWalk=false):iL n₀ W (W.putObj l o'):=by
 refine⟨by simp,fun b cells T fr hb _ _=>?_,fun k hk _=>World.putObj_heap_other (by omega)⟩
 by_cases qE:b=l
 ·subst qE;rw[h]at hb;cases hb;cases hc
 ·exact World.putObj_heap_other qE
def Mu (bs:List PB):List Value:=bs.flatMap fun b=>[.int .i64 b.a,.int .i64 b.b,.int .i64 b.s]
theorem Jw (bs:List PB) (b:PB):Mu (bs++[b])=Mu bs++[.int .i64 b.a,.int .i64 b.b,.int .i64 b.s]:=by simp[Mu]
def oz (s:ax) (l:List ab) (pre:List (O2 l)):List PB:=(pre.map (·.1)).flatMap (Ak s l)
theorem y6 (s:ax) (l:List ab) (pre:List (O2 l)) (x:O2 l):oz s l (pre++[x])=oz s l pre++Ak s l x.1:=by simp[oz]
theorem Jv (s:ax) (l:List ab) (x:Nat×Nat×Int):(Ak s l x).length<=1:=by
 unfold Ak;split<;>simp
theorem Jy (s:ax) (l:List ab) (pre:List (O2 l)):(oz s l pre).length<=pre.length:=by
 unfold oz
 induction pre with
 |nil=>simp
 |cons x r ih=>
  have:=Jv s l x.1
  simp only[List.map_cons,List.flatMap_cons,List.length_append,List.length_cons]at ih ⊢
  omega
theorem zF (l:List ab) (i:Nat):∀m,(lu l i m).length<=m
 |0=>by simp[lu]
 |m+1=>by
  rw[nO,List.length_append]
  have:=zF l i m
  have:(Db l i (1-(m:Int))).length<=1:=by unfold Db;split<;>simp
  omega
theorem Dc (l:List ab):∀n,(lQ l n).length<=n*2
 |0=>by simp[lQ]
 |n+1=>by
  rw[mZ,List.length_append]
  have:=Dc l n
  have:=zF l n 2
  omega
theorem Cw {β:Type} (B:Nat) (c:Array Value) (t:TypeId) (fr:Nat×Nat):Own (fun(_:β) W=>W.heap[B]? =some (.cells c t fr)):=fun _ X _ row h hg hr=>(hg.block B (Array.getElem?_eq_some_iff.1 h).1 (fun e=>by
 obtain⟨o,ho,hc⟩:=hr B e.symm
 rw[h]at ho;cases ho;cases hc)).trans h
theorem iL.app {n₀:Nat} {W w1:World} {B k:Nat} {v v':Value} {xs:List Value} {tmp:Obj} (hv:Boxed W B 226 v) (gn:W.ownsRow n₀ 246 3 v k xs) (Gm:(W.alloc tmp).grownBy w1 v.ownBlock) (hb:Below n₀ W (w1.setCell ⟨B,0,none⟩ v')):iL n₀ W (w1.setCell ⟨B,0,none⟩ v'):=by
 refine⟨hb.size,fun b cells T fr h h1 h2=>?_,fun k hk _=>hb.block k hk⟩
 have ew:=(Array.getElem?_eq_some_iff.1 h).1
 have hbB:b≠B:=by
  rintro rfl
  rw[show W.heap[b]? = _ from hv]at h
  cases h
  exact h1 rfl
 have Uo:some b≠v.ownBlock:=by
  rcases gn.2 with⟨rfl,_⟩|⟨g,cap,cur,rfl,_,hg,_⟩
  ·simp[Value.ownBlock]
  ·intro e
   obtain rfl:b=g:=by simpa[Value.ownBlock]using e
   rw[hg]at h;cases h
   exact h2 rfl
 refine(Below.heap_setCell w1 ⟨B,0,none⟩ v' b hbB).trans ?_
 exact(Gm.block b (by simp;omega) Uo).trans (Below.heap_alloc W tmp b ew)
theorem Tn {w:World} {vS:Value} {l:List ab} (hP:qn w vS l):Jf (iL w.heap.size) vS l where
 refl:=iL.refl _
 trans:=iL.trans
 of:=iL.of
 size h:=h.1
 typed h:=h.2.1
 pl {W W'} h hp:=by
  obtain⟨A,c,rfl,hm,hc⟩:=hp.sl
  refine⟨A,c,rfl,hm,?_⟩
  by_cases hl:l=[]
  ·exact .inl hl
  have kK:0<l.length:=List.length_pos_iff.2 hl
  rcases hc with h0|⟨b,o,rfl,kP⟩
  ·exact absurd h0 hl
  obtain⟨A',c',e,_,lk⟩:=hP.sl
  cases e
  rcases lk with h0|⟨b',o',e,hcell'⟩
  ·exact absurd h0 hl
  cases e
  have hb:=vz (hcell' 0 kK).1
  have hk:=h.2.2 b hb (vz (kP 0 kK).1)
  refine .inr ⟨b,o,rfl,fun i hi=>?_⟩
  have AA:∀x,W'.cell? ⟨b,x,none⟩=W.cell? ⟨b,x,none⟩:=fun x=>World.cell?_of_block hk
  rw[AA,AA,AA]
  exact kP i hi
theorem rrE {P:Program} {nt site0:Nat} {ops:Array Oper} {vl:List br} (_:Am P ops site0 false (jR ops) (sw P false ops.toList 0) ops.toList 0=some vl:=by(conv=>lhs;cbv)<;>exact rfl) (h:r5 P nt site0 ops true false=some vl:=by kernel_rfl):r5 P nt site0 ops true false=some vl:=h
theorem KK (l:List Value) (d:Value):l=(List.range l.length).map fun i=>(⟨l⟩:Array Value).getD i d:=by
 refine List.ext_getElem (by simp) fun i h1 h2=>?_
 simp[h1]
theorem Fs {X:fZ} {d:Bool} {ops:List br} {K:Env->au->Prop} {env:Env} {σ:au} (h:dQ X (.eS d ops) (fun _=>K) env σ):wpOps X d ops K env σ:=h
theorem wT (W:World) (T:TypeId) (x y z:Value):∀(j:Nat) (u:Value),[x,y,z][j]? =some u->(W.alloc (.cells #[x,y,z] T)).cell? ((⟨W.heap.size,0,none⟩:Addr).add j)=some u:=fun j u h=>by
 have hb:(W.alloc (.cells #[x,y,z] T)).heap[W.heap.size]? =some (.cells #[x,y,z] T (0,0)):=World.alloc_heap_new _ _
 have e:∀k,(W.alloc (.cells #[x,y,z] T)).cell? ⟨W.heap.size,k,none⟩=(#[x,y,z]:Array Value)[k]? :=fun k=>by
  unfold World.cell?
  rw[show(W.alloc (.cells #[x,y,z] T)).heap[(⟨W.heap.size,k,none⟩:Addr).block]? = _ from hb]
  rfl
 rw[show(⟨W.heap.size,0,none⟩:Addr).add j=⟨W.heap.size,j,none⟩ by simp[Addr.add];exact fun h=>h.symm,e]
 simpa using h
def JD (n b:Nat):Names:=fun id=>if id=⟨1,0⟩then some ⟨n,2,2,none⟩else if id=⟨2,0⟩then some ⟨n+1,1,1,none⟩else if id=⟨3,0⟩then some ⟨n+1+1,1,1,none⟩else if id=⟨4,0⟩then some ⟨b,2,2,none⟩else if id=⟨5,0⟩then some ⟨n+1+1+1,1,1,none⟩else none
def N9 (s:ax) (l:List ab) (i k:Nat):Rows:=fun id=>if id=⟨1,0⟩then some ⟨false,2,[ad s]⟩else if id=⟨2,0⟩then some ⟨false,1,[[.sl (l.map aa)]]⟩else if id=⟨4,0⟩then some ⟨false,2,[[.int .i64 (i:Int),.int .i64 (k:Int)]]⟩else none
def Pb (s:ax) (l:List ab) (i k:Nat) (d:Int):Env:=cG [.agg (ad s),.agg [.sl (l.map aa)],.ptr ⟨1,0⟩ 0 0,.ptr ⟨2,0⟩ 0 0,.bD,.ptr ⟨3,0⟩ 0 0,.ptr ⟨4,0⟩ 0 0,.int .i64 d,.undef,.agg [.sl (l.map aa)],.fn 264 [.ptr ⟨5,0⟩ 0 0],.agg [.int .i64 (i:Int),.int .i64 (k:Int)],.int .i64 d]
theorem FD {P:Program} {W:World} {D:Nat->Prop} {ι:Names} {B:s9} {cells:Array Value} {T:TypeId} {cs:List AV} (hk:B.k=none) (hb:W.heap[B.b]? =some (.cells cells T (0,0))) (hC:cells.size=B.C) (hz:B.sz=cs.length) (hl:cs.length=cells.size) (hf:∀a∈cs,a.cell=true) (hr:∀(j:Nat) (a:AV),cs[j]? =some a->∃v,cells[j]? =some v/\di P W D ι a v):ib P W D ι B ⟨false,cs.length,[cs]⟩:=
 lT.obj ⟨hz,⟨cells,T,hb,hC⟩,by simp;omega,fun c hc=>by simp at hc;rw[hc],fun c hc=>by simp at hc;rw[hc];exact hf,fun i j c a hi hj=>by
  match i,hi with
  |0,hi=>
   simp at hi;subst hi
   obtain⟨v,h1,h2⟩:=hr j a hj
   exact⟨v,by simp[World.cell?,hb,h1],h2⟩
  |i+1,hi=>simp at hi⟩ hk
theorem Ky:(Tryz.prog.info? 246).map (fun i=>(i.zero,i.size,i.bytes))=some (some (.agg #[.int .i64 0,.int .i64 0,.int .i64 0]),3,24):=by kernel_rfl
end Go.Proofs.YtgoelphibofcmaaGreat.V

namespace Go.Proofs.YtgoelphibofcmaaGreat.V
open Go.RowKit Go.Shelf
attribute [local go_sem] Oper.semAt_some
attribute [local irreducible] dQ wpOps fX Call
attribute [local go_sem] aQ fM eU fY fW dm upd cG K.av cQ AV.cells AV.cell rowOf rowsOf part ld rowAt bQ cC dE ea gZ bS dh eo fV fj dB ef dd dc dS dU b4 bj cV bW cY cW ec eh ee cU ck de eb bV aU da cK gY bx cP cj bd dv bl dG AV.undef bH bK dW dZ dO dL cN ek eu cJ ej ei cZ db List.getD_cons_zero List.getD_cons_succ List.getD_nil List.all_cons List.all_nil Bool.and_true Bool.true_and Bool.and_self Bool.not_true Bool.not_false Option.map_some Option.map_none Option.bind_some Option.bind_none List.length_cons List.length_nil List.take_succ_cons List.take_zero List.take_nil List.drop_succ_cons List.drop_zero List.drop_nil List.head?_cons List.map_cons List.map_nil List.getElem?_cons_zero List.getElem?_cons_succ List.cons_append List.nil_append List.append_nil List.length_map List.set_cons_zero List.set_cons_succ Nat.reduceMul eq_self Int.toNat_natCast Int.natCast_nonneg and_self true_and and_true decide_true decide_false Bool.false_eq_true Nat.zero_add Nat.add_zero List.contains_cons List.contains_nil Bool.or_false Bool.false_or beq_self_eq_true Nat.reduceBEq ne_eq not_true_eq_false not_false_eq_true Id.mk.injEq false_and and_false Nat.reduceLT Int.reduceLE Int.reduceLT Int.reduceToNat Int.reduceNeg Int.reduceAdd Nat.le_refl List.length_append beq_true beq_false Bool.not_eq_eq_eq_not or_false false_or dX ae aj aJ bq bG cr aY bf aW bp cR bB
theorem JB (s:ax) (l:List ab) (hF:kZ s) (hA:lN s l) (w:World) (Ag At:Option Addr) (ng cg nt ct:Nat) (vS:Value) (hT:j0 Tryz.prog w (fun b=>b<w.heap.size) (.agg (ad s)) (.agg #[.slice Ag ng cg,.slice At nt ct])) (hP:qn w vS l):
  CallsIn Fence.wide 5 Tryz.prog 222 #[.agg #[.slice Ag ng cg,.slice At nt ct],.agg #[vS]] w fun e W'=>∃v,e=.returned v/\W'.ownsRow w.heap.size 246 3 v (dn s l).length (Mu (dn s l))/\(v=.slice none 0 0↔dn s l=[])/\Below w.heap.size w W':=by
 obtain⟨A,cp,rfl,_,_⟩:=hP.sl
 obtain⟨i0,hi,I5,BL,k6⟩:=info_parts Ky
 refine callsIn_of_wp_marks Tryz.func222 rfl trivial ?_ rfl
 simp only[Tryz.ntmps222,List.size_toArray,List.length_cons,List.length_nil,Nat.reduceAdd,Nat.reduceSub,Array.replicate_succ,Array.replicate_zero,List.push_toArray,List.append_toArray,List.nil_append,List.cons_append]
 gi_wp2_with (refine⟨trivial,?_⟩;gi_at_call 244;refine(AR _ _ _).mono ?_;rintro e w' ⟨rfl,rfl⟩)
 have bT:((w.alloc (.cells #[.slice Ag ng cg,.slice At nt ct] 38)).heap[w.heap.size]?)=some (.cells #[.slice Ag ng cg,.slice At nt ct] 38 (0,0)):=World.alloc_heap_new _ _
 obtain⟨w1,oq⟩:∃w1,w.alloc (.cells #[.slice Ag ng cg,.slice At nt ct] 38)=w1:=⟨_,rfl⟩
 have RP:w1.heap.size=w.heap.size+1:=by rw[<-oq];simp
 have BD:Below w.heap.size w w1:=by rw[<-oq];exact(Below.refl _ w).alloc (Nat.le_refl _) _
 rw[oq]at bT ⊢
 clear oq
 have bA:=Boxed.new w1 41 (.slice A l.length cp)
 have bO:=Boxed.new (w1.alloc (.cells #[.slice A l.length cp] 41)) 226 (.slice none 0 0)
 have bN:=Boxed.new ((w1.alloc (.cells #[.slice A l.length cp] 41)).alloc (.cells #[.slice none 0 0] 226)) 41 (.slice A l.length cp)
 replace bA:=(bA.alloc (.cells #[.slice none 0 0] 226)).alloc (.cells #[.slice A l.length cp] 41)
 replace bO:=bO.alloc (.cells #[.slice A l.length cp] 41)
 simp only[World.size_alloc,RP]at bA bO bN
 have qt:Below w1.heap.size w1 (((w1.alloc (.cells #[.slice A l.length cp] 41)).alloc (.cells #[.slice none 0 0] 226)).alloc (.cells #[.slice A l.length cp] 41)):=(((Below.refl _ w1).alloc (Nat.le_refl _) _).alloc (by simp) _).alloc (by simp;omega) _
 have fH:(((w1.alloc (.cells #[.slice A l.length cp] 41)).alloc (.cells #[.slice none 0 0] 226)).alloc (.cells #[.slice A l.length cp] 41)).heap.size=w.heap.size+4:=by simp;omega
 obtain⟨W0,hW0⟩:∃W0,((w1.alloc (.cells #[.slice A l.length cp] 41)).alloc (.cells #[.slice none 0 0] 226)).alloc (.cells #[.slice A l.length cp] 41)=W0:=⟨_,rfl⟩
 rw[hW0]at bA bO bN qt fH ⊢
 clear hW0
 have Cu:Below w.heap.size w W0:=BD.trans (qt.mono (by omega))
 replace bT:=(qt.block w.heap.size (by omega)).trans bT
 have hP0:qn W0 (.slice A l.length cp) l:=hP.below Cu
 have kl:=Tn hP
 have qE:=qL (s:=s) hA.1
 refine wpIn_rangeFunc_ownH (n:=5) rfl (by omega) (gf:=264) (lb:= #[.pointer (some ⟨w.heap.size+1+1+1,0,none⟩)]) rfl trivial (enters_of Tryz.func264 (by kernel_rfl) rfl)
  (KT l hA.1 (w.heap.size+1+1+1) (5-1) (by omega) (.slice A l.length cp) (iL w.heap.size) kl W0 bN hP0) iL.trans (iL.b (by omega)) (Below.refl _ _) (fun _=>rfl)
  (fun pre W=>((∃v,Boxed W (w.heap.size+1+1) 226 v/\W.ownsRow w.heap.size 246 3 v (oz s l pre).length (Mu (oz s l pre))/\(v=.slice none 0 0↔oz s l pre=[]))/\(Boxed W (w.heap.size+1) 41 (.slice A l.length cp)/\W.heap[w.heap.size]? =some (.cells #[.slice Ag ng cg,.slice At nt ct] 38 (0,0))))/\Below w.heap.size w W)
  (fun _ _ _=>False)
  (OwnFrom.and (OwnFrom.and (Own.from (holdsRow_own w.heap.size (w.heap.size+1+1) 226 246 3 (fun pre=>(oz s l pre).length) (fun pre=>Mu (oz s l pre)) (fun pre v=>v=.slice none 0 0↔oz s l pre=[])) _) (OwnFrom.and (Own.from (boxed_own _ _ _) _) (Own.from (Cw _ _ _ _) _))) (ownFrom_below (Nat.le_refl _) (by omega)))
  (fun _ _ _ _ _ hs _ _=>hs)
  ⟨⟨⟨_,bO,World.ownsRow_nil _ _ _ _,by simp[oz]⟩,bA,bT⟩,Cu⟩
  (fun x a' W=>∃Bx,w.heap.size+1+1<Bx/\W.heap[Bx]? =some (.cells #[.int .i64 (x.1.1:Int),.int .i64 (x.1.2.1:Int)] 283 (0,0))/\a'={tmps:= #[.agg #[.slice Ag ng cg,.slice At nt ct],.agg #[.slice A l.length cp],.pointer (some ⟨w.heap.size,0,none⟩),.pointer (some ⟨w.heap.size+1,0,none⟩),.slice none 0 0,.pointer (some ⟨w.heap.size+1+1,0,none⟩),.pointer (some ⟨Bx,0,none⟩),.int .i64 x.1.2.2,undef,.agg #[.slice A l.length cp],.func (.func 264) #[] #[.pointer (some ⟨w.heap.size+1+1+1,0,none⟩)],.agg #[.int .i64 (x.1.1:Int),.int .i64 (x.1.2.1:Int)],.int .i64 x.1.2.2,undef,undef,undef,undef,undef,undef,undef,undef,undef,undef,undef,undef,undef,undef,undef,undef,undef,undef,undef,undef,undef,undef,undef,undef,undef,undef,undef,undef,undef],defers:=[]})
  (fun x a' _ X Y row hs hg hr=>by obtain⟨Bx,h1,h2,h3⟩:=hs;exact⟨Bx,h1,Cw Bx _ _ _ () X Y row h2 hg (fun r e=>(hr r e).2),h3⟩)
  ?assign ?body ?done ?stop
 case assign=>
  rintro q pre ⟨⟨x0,x1,x2⟩,hx⟩ W K ⟨⟨⟨v,hv,gn,hnil⟩,bA1,bT1⟩,hB⟩ hK
  simp only[Gd]
  gi_wp2
  exact hK _ _ ((KeepsOthers.alloc _ _).from _) (iL.of ((Below.refl _ W).alloc (Nat.le_refl _) _)) ⟨⟨⟨v,hv.alloc _,gn.alloc _,hnil⟩,bA1.alloc _,(Below.heap_alloc _ _ _ (Array.getElem?_eq_some_iff.1 bT1).1).trans bT1⟩,hB.alloc hB.size _⟩ ⟨W.heap.size,hv.lt,World.alloc_heap_new _ _,rfl⟩
 case body=>
  rintro q pre ⟨⟨x0,x1,x2⟩,hx⟩ a' W hq hqr ⟨⟨⟨v,hv,gn,hnil⟩,bA1,bT1⟩,hB⟩ ⟨Bx,hBx,bX,rfl⟩ ew
  obtain⟨DX,Gx,vd⟩:=hx
  simp only at DX Gx vd bX
  obtain⟨A',c',e',_,hc⟩:=(hP.below hB).sl
  cases e'
  have dC:∃b o,A=some ⟨b,o,none⟩/\W.cell? ⟨b,o+x0*3+2,none⟩=some (.int .i64 (aA l x0).aT)/\W.cell? ⟨b,o+x1*3+2,none⟩=some (.int .i64 (aA l x1).aT):=by
   rcases hc with rfl|⟨b,o,rfl,kP⟩
   ·simp at DX
   ·exact⟨b,o,rfl,by rw[Nat.add_assoc];exact(kP x0 DX).2.2,by rw[Nat.add_assoc];exact(kP x1 Gx).2.2⟩
  obtain⟨b,o,rfl,cP0,cP1⟩:=dC
  have cT0:W.cell? ⟨w.heap.size,0,none⟩=some (.slice Ag ng cg):=by simp[World.cell?,bT1]
  have cT1:W.cell? ⟨w.heap.size,1,none⟩=some (.slice At nt ct):=by simp[World.cell?,bT1]
  have cX0:W.cell? ⟨Bx,0,none⟩=some (.int .i64 (x0:Int)):=by simp[World.cell?,bX]
  have cX1:W.cell? ⟨Bx,1,none⟩=some (.int .i64 (x1:Int)):=by simp[World.cell?,bX]
  have cA:=bA1.cell
  have dP0:W.drew.cell? ⟨b,o+x0*3+2,none⟩=some (.int .i64 (aA l x0).aT):=cP0
  have dP1:W.drew.cell? ⟨b,o+x1*3+2,none⟩=some (.int .i64 (aA l x1).aT):=cP1
  have dT0:W.drew.cell? ⟨w.heap.size,0,none⟩=some (.slice Ag ng cg):=cT0
  have dT1:W.drew.cell? ⟨w.heap.size,1,none⟩=some (.slice At nt ct):=cT1
  have dX0:W.drew.cell? ⟨Bx,0,none⟩=some (.int .i64 (x0:Int)):=cX0
  have dX1:W.drew.cell? ⟨Bx,1,none⟩=some (.int .i64 (x1:Int)):=cX1
  have dA:W.drew.cell? ⟨w.heap.size+1,0,none⟩=some (.slice (some ⟨b,o,none⟩) l.length cp):=cA
  have tJ:∀i,i<l.length->aA l i∈l:=fun i hi=>by
   unfold aA
   rw[List.getD_eq_getElem?_getD,List.getElem?_eq_getElem hi]
   exact List.getElem_mem hi
  have Wd:=mixed
  have hfw:=hA.1.yi
  have Up:=Em s hF (aA l x0).aT x2 (aA l x1).aT (hA.2 _ (tJ x0 DX)) (hA.2 _ (tJ x1 Gx)) (gr (by omega))
  have hTW:j0 Tryz.prog W (fun b=>b<w.heap.size) (.agg (ad s)) (.agg #[.slice Ag ng cg,.slice At nt ct]):=hT.frame (fun b hb=>hB.block b hb) (fun _ h=>h)
  have hAW:j0 Tryz.prog W (fun b=>b<w.heap.size) (.sl (l.map aa)) (.slice (some ⟨b,o,none⟩) l.length cp):=hP.eZ.frame (fun b hb=>hB.block b hb) (fun _ h=>h)
  obtain⟨fT,hT0,hT1⟩:∃f:Nat->Value,(∀j,j<(ad s).length->(#[Value.slice Ag ng cg,.slice At nt ct])[j]? =some (f j))/\∀j a,(ad s)[j]? =some a->j0 Tryz.prog W (fun b=>b<w.heap.size) a (f j):=by
   cases hTW with
   |agg _ _ f _ _ h3 h4=>exact⟨f,h3,h4⟩
  have dJ:St Tryz.prog W.heap.size 42 (fun b=>b<w.heap.size) (JD w.heap.size Bx) (Pb s l x0 x1 x2) ⟨N9 s l x0 x1,1⟩ {tmps:= #[.agg #[.slice Ag ng cg,.slice At nt ct],.agg #[.slice (some ⟨b,o,none⟩) l.length cp],.pointer (some ⟨w.heap.size,0,none⟩),.pointer (some ⟨w.heap.size+1,0,none⟩),.slice none 0 0,.pointer (some ⟨w.heap.size+1+1,0,none⟩),.pointer (some ⟨Bx,0,none⟩),.int .i64 x2,undef,.agg #[.slice (some ⟨b,o,none⟩) l.length cp],.func (.func 264) #[] #[.pointer (some ⟨w.heap.size+1+1+1,0,none⟩)],.agg #[.int .i64 (x0:Int),.int .i64 (x1:Int)],.int .i64 x2,undef,undef,undef,undef,undef,undef,undef,undef,undef,undef,undef,undef,undef,undef,undef,undef,undef,undef,undef,undef,undef,undef,undef,undef,undef,undef,undef,undef,undef],defers:=[]} W:=by
   have n1:(JD w.heap.size Bx) ⟨1,0⟩=some ⟨w.heap.size,2,2,none⟩:=rfl
   have n2:(JD w.heap.size Bx) ⟨2,0⟩=some ⟨w.heap.size+1,1,1,none⟩:=rfl
   have n3:(JD w.heap.size Bx) ⟨3,0⟩=some ⟨w.heap.size+1+1,1,1,none⟩:=rfl
   have n4:(JD w.heap.size Bx) ⟨4,0⟩=some ⟨Bx,2,2,none⟩:=rfl
   have n5:(JD w.heap.size Bx) ⟨5,0⟩=some ⟨w.heap.size+1+1+1,1,1,none⟩:=rfl
   have rp:∀(id:Id) (B:s9),(JD w.heap.size Bx) id=some B->B.k=none->di Tryz.prog W (fun b=>b<w.heap.size) (JD w.heap.size Bx) (.ptr id 0 0) (.pointer (some ⟨B.b,0,none⟩)):=fun id B h hk=>by
    have:=di.ptr (P:=Tryz.prog) (w:=W) (D:=fun b=>b<w.heap.size) id 0 0 B h hk
    simpa using this
   have ri:∀n:Int,di Tryz.prog W (fun b=>b<w.heap.size) (JD w.heap.size Bx) (.int .i64 n) (.int .i64 n):=fun n=>.eZ _ _ (.int _ _)
   have hA1:j0 Tryz.prog W (fun b=>b<w.heap.size) (.agg [.sl (l.map aa)]) (.agg #[.slice (some ⟨b,o,none⟩) l.length cp]):=.agg _ _ (fun _=>.slice (some ⟨b,o,none⟩) l.length cp) rfl (fun a ha=>by simp at ha;rw[ha];rfl) (fun j hj=>by match j,hj with|0,_=>rfl|j+1,hj=>simp at hj) (fun j a ha=>by match j,ha with|0,ha=>simp at ha;subst ha;exact hAW|j+1,ha=>simp at ha)
   refine⟨⟨Nat.le_refl _,fun b hb=>Nat.lt_of_lt_of_le hb hB.size,fun id r hg=>?_,fun id kf r r' B B' h _ hw=>?_⟩,fun id hid=>?_,fun t=>?_,rfl⟩
   ·replace hg:N9 s l x0 x1 id=some r:=hg
    unfold N9 at hg
    split at hg
    ·rename_i e;subst e;injection hg with hg;subst hg
     exact⟨_,n1,FD (cs:=ad s) rfl bT1 rfl rfl rfl (fun a ha=>by simp[ad]at ha;rcases ha with rfl|rfl<;>rfl) (fun j a ha=>⟨_,hT0 j (List.getElem?_eq_some_iff.1 ha).1,.eZ _ _ (hT1 j a ha)⟩),fun h=>(by cases h),fun h=>(by cases h)⟩
    ·split at hg
     ·rename_i e;subst e;injection hg with hg;subst hg
      exact⟨_,n2,FD (cs:=[.sl (l.map aa)]) rfl bA1 rfl rfl rfl (fun a ha=>by simp at ha;rw[ha];rfl) (fun j a ha=>by match j,ha with|0,ha=>simp at ha;subst ha;exact⟨_,rfl,.eZ _ _ hAW⟩|j+1,ha=>simp at ha),fun h=>(by cases h),fun h=>(by cases h)⟩
     ·split at hg
      ·rename_i e;subst e;injection hg with hg;subst hg
       exact⟨_,n4,FD (cs:=[.int .i64 (x0:Int),.int .i64 (x1:Int)]) rfl bX rfl rfl rfl (fun a ha=>by simp at ha;rcases ha with rfl|rfl<;>rfl) (fun j a ha=>by match j,ha with|0,ha=>simp at ha;subst ha;exact⟨_,rfl,ri _⟩|1,ha=>simp at ha;subst ha;exact⟨_,rfl,ri _⟩|j+2,ha=>simp at ha),fun h=>(by cases h),fun h=>(by cases h)⟩
      ·cases hg
   ·exfalso
    replace h:N9 s l x0 x1 id=some r:=h
    unfold N9 at h
    split at h
    ·injection h with h;subst h;cases hw
    ·split at h
     ·injection h with h;subst h;cases hw
     ·split at h
      ·injection h with h;subst h;cases hw
      ·cases h
   ·left
    unfold JD at hid
    repeat' (split at hid)
    all_goals first|(rename_i e;subst e;exact Nat.zero_lt_one)|exact absurd rfl hid
   ·match t with
    |0=>exact .eZ _ _ hTW
    |1=>exact .eZ _ _ hA1
    |2=>exact rp _ _ n1 rfl
    |3=>exact rp _ _ n2 rfl
    |4=>exact .eZ _ _ .bD
    |5=>exact rp _ _ n3 rfl
    |6=>exact rp _ _ n4 rfl
    |7=>exact ri _
    |8=>exact di.undef
    |9=>exact .eZ _ _ hA1
    |10=>exact .fn _ _ _ (fun _=>.pointer (some ⟨w.heap.size+1+1+1,0,none⟩)) (by kernel_rfl) rfl (fun j hj=>by match j,hj with|0,_=>rfl|j+1,hj=>simp at hj) (fun j a ha=>by match j,ha with|0,ha=>simp at ha;subst ha;exact rp _ _ n5 rfl|j+1,ha=>simp at ha)
    |11=>exact .agg _ _ (fun j=>if j=0 then .int .i64 (x0:Int)else .int .i64 (x1:Int)) rfl (fun a ha=>by simp at ha;rcases ha with rfl|rfl<;>rfl) (fun j hj=>by match j,hj with|0,_=>rfl|1,_=>rfl|j+2,hj=>simp at hj;omega) (fun j a ha=>by match j,ha with|0,ha=>simp at ha;subst ha;exact ri _|1,ha=>simp at ha;subst ha;exact ri _|j+2,ha=>simp at ha)
    |12=>exact ri _
    |13=>exact di.undef
    |14=>exact di.undef
    |15=>exact di.undef
    |16=>exact di.undef
    |17=>exact di.undef
    |18=>exact di.undef
    |19=>exact di.undef
    |20=>exact di.undef
    |21=>exact di.undef
    |22=>exact di.undef
    |23=>exact di.undef
    |24=>exact di.undef
    |25=>exact di.undef
    |26=>exact di.undef
    |27=>exact di.undef
    |28=>exact di.undef
    |29=>exact di.undef
    |30=>exact di.undef
    |31=>exact di.undef
    |32=>exact di.undef
    |33=>exact di.undef
    |34=>exact di.undef
    |35=>exact di.undef
    |36=>exact di.undef
    |37=>exact di.undef
    |38=>exact di.undef
    |39=>exact di.undef
    |40=>exact di.undef
    |41=>exact di.undef
    |t+42=>exact di.undef
  have hV:wpOps (Call Tryz.prog) true ?vl (fun e _=>e 5=.ptr ⟨3,0⟩ 0 0/\e 6=.ptr ⟨4,0⟩ 0 0/\e 8=.int .i64 (gw s (aA l x0).aT x2 (aA l x1).aT)) (Pb s l x0 x1 x2) ⟨N9 s l x0 x1,1⟩:= ?hv
  gi_wp2
  refine A5 mixed (rrE (nt:=42) (site0:=222005000)) (KV (by kernel_rfl)) (lJ (fun _ _ _ _ h=>gG mixed h) lg (fun _ _ h=>h) _ _ _ hV) dJ ?_
  rintro e1 σ1 ⟨tm,df⟩ w3 D1 ι1 ⟨h5,h6,h8⟩ T1 tk EL
  case hv=>
   refine Fs ?_
   have e0:=fw DX
   have e1:=fw Gx
   (repeat(first|((repeat(revert hN;revert N;apply Pn.out));refine wk (tw @e0 (tw @e1 (tw @Pb.eq_1 (tw @N9.eq_1 (tw @aa.eq_1 @ad.eq_1))))) ?_;(repeat(refine Pn.mk ?_;intro N hN)))|((try apply Or.inl);refine⟨_,aq.x (Up) (sd (tw @e0 (tw @e1 (tw @Pb.eq_1 (tw @N9.eq_1 (tw @aa.eq_1 @ad.eq_1)))))),?_⟩;refine hN _ _ ?_;clear hN N)))
   exact⟨sd @Pb.eq_1,sd @Pb.eq_1,sd @Pb.eq_1⟩
  ·have Cv:Below W.heap.size W w3:=T1.below
   have vW:∀id B,JD w.heap.size Bx id=some B->ι1 id=some B:=T1.names
   have p5:tm.getD 5 undef=.pointer (some ⟨w.heap.size+1+1,0,none⟩):=by
    have g:=tk.env 5
    rw[h5]at g
    obtain⟨B,e,hB,_⟩:=iS g
    have h:=vW ⟨3,0⟩ ⟨w.heap.size+1+1,1,1,none⟩ rfl
    rw[h]at hB;injection hB with hB;subst hB
    simpa using e
   have p6:tm.getD 6 undef=.pointer (some ⟨Bx,0,none⟩):=by
    have g:=tk.env 6
    rw[h6]at g
    obtain⟨B,e,hB,_⟩:=iS g
    have h:=vW ⟨4,0⟩ ⟨Bx,2,2,none⟩ rfl
    rw[h]at hB;injection hB with hB;subst hB
    simpa using e
   have p8:tm.getD 8 undef=.int .i64 (gw s (aA l x0).aT x2 (aA l x1).aT):=by
    have g:=tk.env 8
    rw[h8]at g
    exact dD g
   have fH:=tk.size
   obtain⟨tl⟩:=tm
   obtain⟨f,Gu,hf⟩:∃f:Nat->Value,tl=[f 0,f 1,f 2,f 3,f 4,f 5,f 6,f 7,f 8,f 9,f 10,f 11,f 12,f 13,f 14,f 15,f 16,f 17,f 18,f 19,f 20,f 21,f 22,f 23,f 24,f 25,f 26,f 27,f 28,f 29,f 30,f 31,f 32,f 33,f 34,f 35,f 36,f 37,f 38,f 39,f 40,f 41]/\∀i,f i=(⟨tl⟩:Array Value).getD i undef:=by
    refine⟨fun i=>(⟨tl⟩:Array Value).getD i undef,?_,fun _=>rfl⟩
    have h:=KK tl undef
    rw[show tl.length=42 from fH]at h
    exact h
   rw[<-hf]at p5 p6 p8
   have VU:df=[]:=EL
   subst VU
   clear hf tk dJ hV
   subst Gu
   rw[p5,p6,p8]
   have UM:=hv.kept (grown_of Cv) (by simp)
   have Gs:=gn.kept (grown_of Cv) (by rcases gn.2 with⟨e,_⟩|⟨_,_,_,e,_⟩<;>rw[e]<;>simp[Value.ownBlock])
   have hc3:=UM.cell
   have hn3:w.heap.size<=w3.heap.size:=Nat.le_trans hB.size Cv.size
   have eX0:w3.cell? ⟨Bx,0,none⟩=some (.int .i64 (x0:Int)):=(Cv.cell (p:=⟨Bx,0,none⟩) (Array.getElem?_eq_some_iff.1 bX).1).trans cX0
   have eX1:w3.cell? ⟨Bx,1,none⟩=some (.int .i64 (x1:Int)):=(Cv.cell (p:=⟨Bx,1,none⟩) (Array.getElem?_eq_some_iff.1 bX).1).trans cX1
   have me:(oz s l pre).length<=2097152:=by
    have h1:=Jy s l pre
    have h2:=Dc l l.length
    omega
   have hKF:KeepsFrom (w.heap.size+4) W w3:=⟨Cv.size,fun k o _ hk _=>(Cv.block k (Array.getElem?_eq_some_iff.1 hk).1).trans hk⟩
   have hKT:iL w.heap.size W w3:=iL.of Cv
   have Ve:w3.heap[w.heap.size+1]? = _:=(Cv.block _ bA1.lt).trans bA1
   have Vf:=(Cv.block _ (Array.getElem?_eq_some_iff.1 bT1).1).trans bT1
   by_cases kK:0<gw s (aA l x0).aT x2 (aA l x1).aT
   ·have om:oz s l (pre++[⟨(x0,x1,x2),DX,Gx,vd⟩])=oz s l pre++[⟨x0,x1,gw s (aA l x0).aT x2 (aA l x1).aT⟩]:=by
     rw[y6];simp only[Ak,if_pos kK]
    gi_wp2_with (gi_at_builtin;refine wpListIn_append_own _ rfl _ _ 226 rfl w.heap.size 246 i0 (.agg #[.int .i64 0,.int .i64 0,.int .i64 0]) 3 24 (by kernel_rfl) hi I5 BL k6 rfl (by decide) _ _ _ rfl (Gs.alloc _) ⟨w3.heap.size,0,none⟩ 1 1 [.int .i64 (x0:Int),.int .i64 (x1:Int),.int .i64 (gw s (aA l x0).aT x2 (aA l x1).aT)] rfl rfl (wT _ _ _ _ _) (by simp[Value.oneCell']) (by unfold maxLen;omega) (by omega) (by simp;omega) ?_;intro v' w4 Ow Gm _;obtain⟨g',cap',rfl⟩:=ownsRow_succ Ow;obtain⟨zo,Qn,EY,xk,BE⟩:=UM.appended (by decide) Gs hn3 (by omega) Ow Gm;have MZ:=iL.app UM Gs Gm BE;have nw:=zo.cell;have hf1:=zo.frozen)
    exact⟨hKF.trans (xk.from _),hKT.trans MZ,⟨⟨_,Qn,by rw[om,Jw,List.length_append];exact EY,by rw[om];simp⟩,(MZ.2.1 _ _ _ _ Ve (by decide) (by decide)).trans Ve,(MZ.2.1 _ _ _ _ Vf (by decide) (by decide)).trans Vf⟩,hB.trans ((Cv.mono hB.size).trans BE)⟩
   ·have om:oz s l (pre++[⟨(x0,x1,x2),DX,Gx,vd⟩])=oz s l pre:=by
     rw[y6];simp only[Ak,if_neg kK,List.append_nil]
    gi_wp2
    exact⟨hKF,hKT,⟨⟨v,UM,by rw[om];exact Gs,by rw[om];exact hnil⟩,Ve,Vf⟩,hB.trans (Cv.mono hB.size)⟩
 case done=>
  rintro D ys W hD Gy ⟨⟨⟨v,hv,gn,hnil⟩,_⟩,hB⟩ hK
  have hc:=hv.cell
  have L9:oz s l ys=dn s l:=by rw[JC,<-Gy];rfl
  rw[L9]at gn hnil
  gi_wp2
  refine⟨by simp,.inl ⟨_,_,rfl,run_takeDeferred hK,?_⟩⟩
  exact⟨_,results_tmp rfl _ _ _,v,rfl,ownsRow_putObj gn _ hK rfl,hnil,hB.trans (belowK_b (w:=w) (Nat.le_refl _) W D _ _ (by omega) hK rfl rfl)⟩
 case stop=>
  rintro D c pre W _ _ h _
  exact h.elim
end Go.Proofs.YtgoelphibofcmaaGreat.V

namespace Go.Proofs.YtgoelphibofcmaaGreat.V
open Go.RowKit Go.Shelf
theorem F7:∀{bs:List PB} {i j:Nat} {b:PB},bs[i]? =some b->j<3->(Mu bs)[i*3+j]? =([.int .i64 b.a,.int .i64 b.b,.int .i64 b.s]:List Value)[j]?
 |c::bs,0,j,b,h,hj=>by
  simp at h;subst h
  simp only[Mu,List.flatMap_cons,Nat.zero_mul,Nat.zero_add]
  rw[List.getElem?_append_left (by simpa using hj)]
 |c::bs,i+1,j,b,h,hj=>by
  simp only[List.getElem?_cons_succ]at h
  have:=F7 (bs:=bs) (i:=i) (j:=j) h hj
  simp only[Mu,List.flatMap_cons]at this ⊢
  rw[List.getElem?_append_right (by simp;omega),<-this]
  congr 1
  simp;omega
theorem sj {P:Program} {w:World} {D:Nat->Prop} {rows:List (List AV)} {v:Value} (h:j0 P w D (.sl rows) v):∃A n c,v=.slice A n c:=by
 cases h with
 |BM a c _=>exact⟨_,_,_,rfl⟩
 |sl=>exact⟨_,_,_,rfl⟩
theorem rO {P:Program} {w:World} {D:Nat->Prop} {ι:Names} {rows:List (List AV)} {v:Value} (h:di P w D ι (.sl rows) v):j0 P w D (.sl rows) v:=by
 cases h with
 |eZ _ _ h=>exact h
theorem NI {P:Program} {w:World} {D:Nat->Prop} {l:List ab} {v:Value} (h:j0 P w D (.sl (l.map aa)) v):qn w v l:=by
 generalize hr:l.map aa=rows at h
 cases h with
 |BM a c hc=>
  have:l=[]:=by simpa using hr
  subst this
  exact⟨a,c,rfl,⟨Nat.zero_le _,hc⟩,.inl rfl⟩
 |sl _ b o n c sz vs h1 h2 h3 h4 h5 h5' h6 h7=>
  have hn:n=l.length:=by rw[<-h1,<-hr];simp
  subst hn
  refine⟨some ⟨b,o,none⟩,c,rfl,⟨h2,h3⟩,?_⟩
  by_cases hl:l=[]
  ·exact .inl hl
  refine .inr ⟨b,o,rfl,fun i hi=>?_⟩
  have hg:rows[i]? =some (aa (aA l i)):=by rw[<-hr];exact fw hi
  have fH:sz=3:=by rw[<-h5 _ (List.mem_of_getElem? hg)];rfl
  subst fH
  have k:∀(j:Nat) (x:Int),(aa (aA l i))[j]? =some (.int .i64 x)->j<3->w.cell? ⟨b,o+(i*3+j),none⟩=some (.int .i64 x):=fun j x hj h3=>by
   have:=h7 i j _ _ hg hj
   rw[h6 i j hi h3,dD (.eZ (ι:=fun _=>none) _ _ this)]
  exact⟨k 0 _ rfl (by omega),k 1 _ rfl (by omega),k 2 _ rfl (by omega)⟩
theorem Pa:D5:=by
 intro s l hS hA n
 refine ig ?_
 intro hs D ι w vs S U A
 obtain⟨u0,UL,r0⟩:=A.2 0 _ rfl
 obtain⟨u1,Ta,r1⟩:=A.2 1 _ rfl
 have ew:∀b,D b->b<w.heap.size:=S.dead
 obtain⟨v0,f0,rfl,I5,_,Uv,Wx⟩:=jh r0
 obtain⟨v1,f1,rfl,BL,_,hf1,Qf⟩:=jh r1
 have g0:=rO (Wx 0 _ rfl)
 have g1:=rO (Wx 1 _ rfl)
 have a0:=rO (Qf 0 _ rfl)
 obtain⟨Ag,ng,cg,eg⟩:=sj g0
 obtain⟨At,nt,ct,et⟩:=sj g1
 have e0:v0= #[.slice Ag ng cg,.slice At nt ct]:=by
  obtain⟨vl⟩:=v0
  have q0:=Uv 0 (by simp[ad])
  have q1:=Uv 1 (by simp[ad])
  rw[eg]at q0;rw[et]at q1
  match vl,I5 with
  |[a,b],_=>simp at q0 q1;rw[q0,q1]
 have e1:v1= #[f1 0]:=by
  obtain⟨vl⟩:=v1
  have q0:=hf1 0 (by simp)
  match vl,BL with
  |[a],_=>simp at q0;rw[q0]
 subst e0 e1
 have evs:vs= #[.agg #[.slice Ag ng cg,.slice At nt ct],.agg #[f1 0]]:=by
  obtain⟨vl⟩:=vs
  have hz:=A.1
  match vl,hz with
  |[a,b],_=>simp at UL Ta;rw[UL,Ta]
 subst evs
 have up:∀{a v},j0 Tryz.prog w D a v->j0 Tryz.prog w (fun b=>b<w.heap.size) a v:=fun h=>h.frame (fun _ _=>rfl) ew
 have hT:j0 Tryz.prog w (fun b=>b<w.heap.size) (.agg (ad s)) (.agg #[.slice Ag ng cg,.slice At nt ct]):=
  .agg _ _ f0 I5 (fun a ha=>by simp[ad]at ha;rcases ha with rfl|rfl<;>rfl) Uv (fun j a ha=>by
   match j,ha with
   |0,ha=>simp[ad]at ha;subst ha;exact up g0
   |1,ha=>simp[ad]at ha;subst ha;exact up g1
   |j+2,ha=>simp[ad]at ha)
 refine(callsIn_wide.1 (JB s l hS.form hA w Ag At ng cg nt ct (f1 0) hT (NI a0))).mono ?_
 rintro e W' ⟨v,rfl,⟨hl,hown⟩,hnil,hB⟩
 have S':gJ Tryz.prog hs D ι (fun _=>none) W':=S.stay (fun b hb=>hB.block b hb) hB.size (fun _ h=>h) (fun b hb=>Nat.lt_of_lt_of_le (ew b hb) hB.size) (fun _ h=>.inl h) (fun _ _ h=>h)
 have T:Step hs D ι w D ι W':=Step.stay S (fun b hb=>hB.block b hb) hB.size hB.os hB.tape hB.output (fun _ h=>h) (fun _ h=>.inl h) (fun _ _ h=>h)
 rcases hown with⟨rfl,h0⟩|⟨gb,cap,cur,rfl,SM,hblk,hle,J4,dC,oH⟩
 ·have Sx:dn s l=[]:=hnil.1 rfl
  exact⟨.bD,_,n,D,ι,_,rfl,⟨.bD,jE _ _,by rw[Sx];rfl⟩,T,S',U,Nat.le_refl _,.eZ _ _ .bD⟩
 ·have Sx:dn s l≠[]:=fun h=>by have:=hnil.2 h;cases this
  have jH:ι ⟨0,n⟩=none:=fresh U (fun h=>h)
  have gH:∀{a v},di Tryz.prog W' D ι a v->di Tryz.prog W' D (kY ι ⟨0,n⟩ ⟨gb,3,cap*3,none⟩) a v:=fun h=>h.frame (fun _ _=>rfl) (fun _ h=>h) (fB jH)
  have hR:ib Tryz.prog W' D (kY ι ⟨0,n⟩ ⟨gb,3,cap*3,none⟩) ⟨gb,3,cap*3,none⟩ ⟨true,3,(dn s l).map aH⟩:=by
   refine lT.obj ⟨rfl,⟨cur,_,hblk,dC⟩,?_,fun cs hc=>?_,fun cs hc a ha=>?_,fun i j cs a hi hj=>?_⟩ rfl
   ·simp only[List.length_map];exact Nat.mul_le_mul_right 3 hle
   ·obtain⟨b,_,rfl⟩:=List.mem_map.1 hc;rfl
   ·obtain⟨b,_,rfl⟩:=List.mem_map.1 hc
    simp[aH]at ha
    rcases ha with rfl|rfl|rfl<;>rfl
   ·rw[List.getElem?_map]at hi
    simp only[Option.map_eq_some_iff]at hi
    obtain⟨b,hb,rfl⟩:=hi
    have hj3:j<3:=by have:=(List.getElem?_eq_some_iff.1 hj).1;simpa[aH]using this
    have kF:=(List.getElem?_eq_some_iff.1 hb).1
    have hg:=F7 hb hj3
    rw[<-oH,List.getElem?_take,if_pos (by omega)]at hg
    have key:∀x:Value,([.int .i64 b.a,.int .i64 b.b,.int .i64 b.s]:List Value)[j]? =some x->W'.cell? ⟨gb,i*3+j,none⟩=some x:=fun x hx=>by
     rw[hx]at hg
     have e:W'.cell? ⟨gb,i*3+j,none⟩=cur[i*3+j]? :=by
      unfold World.cell?
      rw[show W'.heap[(⟨gb,i*3+j,none⟩:Addr).block]? = _ from hblk]
      rfl
     rw[e,<-Array.getElem?_toList];exact hg
    match j,hj with
    |0,hj=>simp[aH]at hj;subst hj;exact⟨_,key _ rfl,.eZ _ _ (.int _ _)⟩
    |1,hj=>simp[aH]at hj;subst hj;exact⟨_,key _ rfl,.eZ _ _ (.int _ _)⟩
    |2,hj=>simp[aH]at hj;subst hj;exact⟨_,key _ rfl,.eZ _ _ (.int _ _)⟩
    |j+3,hj=>simp[aH]at hj
  have S2:=gJ.add (r:=⟨true,3,(dn s l).map aH⟩) S S' jH SM hR
  refine⟨.own ⟨0,n⟩ 0 (dn s l).length,bQ (fun _=>none) ⟨0,n⟩ ⟨true,3,(dn s l).map aH⟩,n+1,D,kY ι ⟨0,n⟩ ⟨gb,3,cap*3,none⟩,_,rfl,⟨Bc (dn s l),?_,rfl⟩,T.trans (Step.stay S' (fun _ _=>rfl) (Nat.le_refl _) rfl rfl rfl (fun _ h=>h) (fun _ h=>.inl h) (fB jH)),S2,U.upd.next,Nat.le_succ _,.own _ _ _ _ _ _ (eD _ _ _) rfl hle (.inr (by simp)) (by simp) J4⟩
  unfold Bc
  rw[if_neg Sx]
  have hg:(bQ (fun _=>none) (⟨0,n⟩:Id) ⟨true,3,(dn s l).map aH⟩:Rows) ⟨0,n⟩=some ⟨true,3,(dn s l).map aH⟩:=by simp[bQ]
  have:=fu (n:=5) hg rfl fun b=>vJ _ 4 b
  simpa using this
end Go.Proofs.YtgoelphibofcmaaGreat.V

namespace Go.Proofs.YtgoelphibofcmaaGreat.V
open Go.RowKit
attribute [local irreducible] dQ wpOps fX Call
attribute [local go_sem] aQ fM eU fY fW dm upd cG K.av cQ AV.cells AV.cell rowOf rowsOf part ld rowAt bQ cC dE ea gZ bS dh eo fV fj dB ef dd dc dS dU b4 bj cV bW cY cW ec eh ee cU ck de eb bV aU da cK gY bx cP cj bd dv bl dG AV.undef bH bK dW dZ dO dL cN ek eu cJ ej ei cZ db List.getD_cons_zero List.getD_cons_succ List.getD_nil List.all_cons List.all_nil Bool.and_true Bool.true_and Bool.and_self Bool.not_true Bool.not_false Option.map_some Option.map_none Option.bind_some Option.bind_none List.length_cons List.length_nil List.take_succ_cons List.take_zero List.take_nil List.drop_succ_cons List.drop_zero List.drop_nil List.head?_cons List.map_cons List.map_nil List.getElem?_cons_zero List.getElem?_cons_succ List.cons_append List.nil_append List.append_nil List.length_map List.set_cons_zero List.set_cons_succ Nat.reduceMul eq_self Int.toNat_natCast Int.natCast_nonneg and_self true_and and_true decide_true decide_false Bool.false_eq_true Nat.zero_add Nat.add_zero List.contains_cons List.contains_nil Bool.or_false Bool.false_or beq_self_eq_true Nat.reduceBEq ne_eq not_true_eq_false not_false_eq_true Id.mk.injEq false_and and_false Nat.reduceLT Int.reduceLE Int.reduceLT Int.reduceToNat Int.reduceNeg Int.reduceAdd Nat.le_refl List.length_append beq_true beq_false Bool.not_eq_eq_eq_not or_false false_or dX ae aj aJ bq bG cr aY bf aW bp cR bB
theorem qd {s:aw} {es:List ab} {i:Nat} (hA:lN s.aI (ez s es i)) (hf:iI s (ez s es i) (aA es i).aL (aA es i).aT=true):eY (ez s es i) (aA es i).aL<0:=
 (Ai hA _).1 (by simp[iI]at hf;exact hf.1.2)
theorem tU {s:aw} (hP:uN s) {es:List ab}:∀i,i<=es.length->(∀j,j<i->fb s es j=true)->ui s (es.take i,ez s es i)
 |0,_,_=>⟨fun q=>by simp[ez],by simp[ez]⟩
 |i+1,hi,h=>by
  have ih:=tU hP (es:=es) i (by omega) fun j hj=>h j (by omega)
  have hg:=h i (by omega)
  rw[fb,Bool.and_eq_true,Fw,Bool.and_eq_true]at hg
  have hA:=lx hP (es:=es) i (by omega) fun j hj=>h j (by omega)
  have:=ih.put (x:=aA es i) (qd hA hg.1.2)
  rw[nh s es (by omega),nq (by omega)]
  exact this
def Ed (s:aw) (es:List ab) (σ:au) (r:AV) (σ':au):Prop:=
 ∃v,r=.gD [.agg [v],.int .i64 (k7 s es).1,.int .i64 (k7 s es).2]/\(((k7 s es).2≠0/\v=.bD)∨((k7 s es).2=0/\∃o:Id,v=.own o 0 (ez s es es.length).length/\σ'.get o=some ⟨true,3,(ez s es es.length).map aa⟩/\σ.next<=o.bE/\o.bE<σ'.next))/\Kept σ σ'
theorem wC (s:aw) (es:List ab) (hn:fm s.aI) (hm:mK s) (hl:es.length<=1048576) (σ:au):Call Tryz.prog 148 [.agg (ar s),.sl (es.map aa)] σ (Ed s es σ):=by
 have h1:=yq Pa s hn hm.s.g hm.s.t hm.s.s hm.a
 refine eJ eF rfl fun iQ=>?_
 clear iQ
 cases h0:nT s
 ·have hr:k7 s es=(0,1):=by rw[k7,h0];rfl
  rw[h0]at h1
  rw[ar]at h1 ⊢
  (repeat(first|((repeat(revert hN;revert N;apply Pn.out));refine wk @Nat.zero_add ?_;(repeat(refine Pn.mk ?_;intro N hN)))|((try apply Or.inl);refine⟨_,aq.x (h1) (sd @Nat.zero_add),?_⟩;refine hN _ _ ?_;clear hN N)))
  exact eV (.inl rfl) (vs:=[.agg [.bD],.int .i64 0,.int .i64 1]) (sd @Nat.zero_add) (by
   rw[Ed,hr]
   exact⟨.bD,rfl,.inl ⟨by decide,rfl⟩,by(try dsimp only);omega,fun x hx=>by have h:=dr hx;simp only[go_sem, ↓reduceIte,Nat.reduceEqDiff,Nat.reduceAdd,Nat.reduceSub,Nat.reduceLeDiff,reduceCtorEq,h]⟩)
 rw[h0]at h1
 have hP:=sY.1 h0
 by_cases h5:es.length<=500
 ·have hr:k7 s es=Il s es:=by rw[k7,h0,if_pos rfl,if_pos h5]
  have hd:decide ((500:Int)<(es.length:Int))=false:=decide_eq_false (by omega)
  have S6:=hP.yU.1.yi
  have hso:=hP.some
  have hc:=fun σ=>sG s hP.set s.bh.ai hP.yU σ
  rw[ar]at h1 hc ⊢
  (repeat(first|((repeat(revert hN;revert N;apply Pn.out));refine wk @hd ?_;(repeat(refine Pn.mk ?_;intro N hN)))|((try apply Or.inl);refine⟨_,aq.x (h1) (sd @hd),?_⟩;refine hN _ _ ?_;clear hN N)))
  refine .inr (aE _ _ _ _ _ (fun r σ1 hq=>?_) (hc _))
  obtain⟨g1,x1⟩:=σ1
  obtain⟨c,T,O,rfl,hC,Rs,Rr,VD,tK,jH⟩:=hq
  (try dsimp only at hC Rs Rr VD tK jH)
  have k2:=jH ⟨148000000,σ.next⟩ (by(try dsimp only);omega)
  have k4:=jH ⟨148000001,σ.next⟩ (by(try dsimp only);omega)
  simp only[go_sem, ↓reduceIte,Nat.reduceEqDiff,Nat.reduceAdd,Nat.reduceSub,Nat.reduceLeDiff,reduceCtorEq]at k2 k4
  have hcx:=hC.cv
  have hTx:=hC.tv
  have hOx:=hC.ov
  have V0:∀x:Id,x.bE<σ.next->g1 x=σ.get x:=fun x hx=>by
   have h2:=jH x (by(try dsimp only);omega)
   have h3:=dr hx
   simp only[go_sem, ↓reduceIte,Nat.reduceEqDiff,Nat.reduceAdd,Nat.reduceSub,Nat.reduceLeDiff,reduceCtorEq,h3]at h2
   exact h2
  clear hc jH
  refine hN _ _ ?_
  clear hN N
  (try((repeat(revert hN;revert N;apply Pn.out));refine wk (tw @k2 @k4) ?_;(repeat(refine Pn.mk ?_;intro N hN))))
  refine aZ (fun n env st=>∃i:Nat,n=(es.length)-i/\i<=(es.length)/\env 26=.int .i64 (i:Int)/\st.get ⟨148000000,σ.next⟩=some ⟨true,4,[[.sl (s.aI.aB.map cq),.sl (s.aI.ai.map bJ),.sl (s.bh.ai.map aa),.int .i64 s.ay]]⟩/\st.get ⟨148000001,σ.next⟩=some ⟨true,1,[[.bD]]⟩/\(∀j:Nat,j<i->fb s es j=true)/\(x1<=st.next/\jQ st.get st.next c T O s (s.bh.ai++es.take i)/\∀x:Id,x.bE<σ.next->st.get x=σ.get x)) (es.length) ⟨0,by omega,by omega,sl (tw @k2 @k4),sl (tw @k2 @k4),sl (tw @k2 @k4),fun _ h=>absurd h (Nat.not_lt_zero _),by(try dsimp only);exact⟨by omega,by
   have:=hC.frame (g':=g1) (n':=x1+1+1) (by omega) fun x hx=>rfl
   simp only[go_sem, ↓reduceIte,Nat.reduceEqDiff,Nat.reduceAdd,Nat.reduceSub,Nat.reduceLeDiff,reduceCtorEq]
   simpa using this,fun x hx=>by have h2:=V0 x hx;simp only[go_sem, ↓reduceIte,Nat.reduceEqDiff,Nat.reduceAdd,Nat.reduceSub,Nat.reduceLeDiff,reduceCtorEq,h2]⟩⟩ ?_
  rintro n_a env_a st_a ⟨i,rfl,ale,a26,ag0,ag1,kj,jO⟩ dy
  have a1:=dy 1 (by kernel_rfl);have a2:=dy 2 (by kernel_rfl);have a4:=dy 4 (by kernel_rfl);have a7:=dy 7 (by kernel_rfl);have a24:=dy 24 (by kernel_rfl);have a25:=dy 25 (by kernel_rfl)
  simp only[go_sem, ↓reduceIte,Nat.reduceEqDiff,Nat.reduceAdd,Nat.reduceSub,Nat.reduceLeDiff,reduceCtorEq,k2,k4]at a1 a2 a4 a7 a24 a25
  clear dy
  obtain⟨an,aC,aK⟩:=jO
  have Ct:=lx hP (es:=es) i (by omega) kj
  have MR:=tU hP (es:=es) i (by omega) kj
  have Cx:=Ct.1.yi
  have me:=MR.perm.length_eq
  have acv:=aC.cv
  have Ms:=aC.tv
  have Ae:=aC.ov
  have nv:∀{x y:Id},x.bE<y.bE->x≠y:=fun h e=>by rw[e]at h;omega
  by_cases hi:(i:Int)<(es.length:Int)
  ·have cw:∀{e:Env} {gg:Rows} {nx:Nat},(e 26=.int .i64 (IntKind.i64.wrap ((i:Int)+1)))->(gg ⟨148000000,σ.next⟩=some ⟨true,4,[[.sl (s.aI.aB.map cq),.sl (s.aI.ai.map bJ),.sl (s.bh.ai.map aa),.int .i64 s.ay]]⟩)->(gg ⟨148000001,σ.next⟩=some ⟨true,1,[[.bD]]⟩)->(fb s es i=true)->(x1<=nx/\jQ gg nx c T O s (s.bh.ai++es.take (i+1))/\∀x:Id,x.bE<σ.next->gg x=σ.get x)->∃m0,m0<(es.length)-i/\∃i:Nat,m0=(es.length)-i/\i<=(es.length)/\e 26=.int .i64 (i:Int)/\gg ⟨148000000,σ.next⟩=some ⟨true,4,[[.sl (s.aI.aB.map cq),.sl (s.aI.ai.map bJ),.sl (s.bh.ai.map aa),.int .i64 s.ay]]⟩/\gg ⟨148000001,σ.next⟩=some ⟨true,1,[[.bD]]⟩/\(∀j:Nat,j<i->fb s es j=true)/\(x1<=nx/\jQ gg nx c T O s (s.bh.ai++es.take i)/\∀x:Id,x.bE<σ.next->gg x=σ.get x):=fun x1 x2 x3 x4 x5=>⟨_,by omega,i+1,rfl,by omega,(by rw[x1,aD (by omega)]),x2,x3,(all_succ kj x4),x5⟩
   have fe:i<es.length:=by omega
   have iV:=fw fe
   have jc:(es.map aa).length=es.length:=by simp
   have E4:=CQ s.aI (aA es i).aT
   rw[ad]at E4
   cases ht:ev s.aI (aA es i).aT
   ·rw[ht]at E4
    have hB:Fw s es i=false:=by rw[Fw,ht];rfl
    have nz:=pD fe kj (by rw[fb,hB];rfl)
    rw[hB]at nz
    (repeat(first|((repeat(revert hN;revert N;apply Pn.out));refine wk (tw @a26 (tw @ag0 (tw @ag1 (tw @a1 (tw @a2 (tw @a4 (tw @a7 (tw @a24 (tw @a25 (tw @hi (tw @iV (tw @jc @aa.eq_1)))))))))))) ?_;(repeat(refine Pn.mk ?_;intro N hN)))|((try apply Or.inl);refine⟨_,aq.x (E4) (sd (tw @a26 (tw @ag0 (tw @ag1 (tw @a1 (tw @a2 (tw @a4 (tw @a7 (tw @a24 (tw @a25 (tw @hi (tw @iV (tw @jc @aa.eq_1))))))))))))),?_⟩;refine hN _ _ ?_;clear hN N)))
    exact eV (.inl rfl) (vs:=[.agg [.bD],.int .i64 (i:Int),.int .i64 5]) (sd (tw @a26 (tw @ag0 (tw @ag1 (tw @a1 (tw @a2 (tw @a4 (tw @a7 (tw @a24 @a25))))))))) (by
     rw[Ed,hr,nz]
     exact⟨.bD,rfl,.inl ⟨by simp,rfl⟩,by(try dsimp only);omega,fun x hx=>by
      have h:=dr (i:=x) (n:=st_a.next) (by omega)
      have h2:=dr hx
      have h3:=aK x hx
      simp only[go_sem, ↓reduceIte,Nat.reduceEqDiff,Nat.reduceAdd,Nat.reduceSub,Nat.reduceLeDiff,reduceCtorEq,h,h2,h3]⟩)
   ·rw[ht]at E4
    have Rp:∀y,0<=gV (s.bh.ai++es.take i) y->ev s.aI (gV (s.bh.ai++es.take i) y)=true:=fun y hy=>by
     rw[MR.at_]at hy ⊢
     exact iH.BW Ct y hy
    (repeat(first|((repeat(revert hN;revert N;apply Pn.out));refine wk (tw @a26 (tw @ag0 (tw @ag1 (tw @a1 (tw @a2 (tw @a4 (tw @a7 (tw @a24 (tw @a25 (tw @hi (tw @iV (tw @jc @aa.eq_1)))))))))))) ?_;(repeat(refine Pn.mk ?_;intro N hN)))|((try apply Or.inl);refine⟨_,aq.x (E4) (sd (tw @a26 (tw @ag0 (tw @ag1 (tw @a1 (tw @a2 (tw @a4 (tw @a7 (tw @a24 (tw @a25 (tw @hi (tw @iV (tw @jc @aa.eq_1))))))))))))),?_⟩;refine hN _ _ ?_;clear hN N)))
    have rj:=MR.fit (aA es i).aL (aA es i).aT
    (try dsimp only at rj)
    refine .inl ⟨_,JS (aC.Es.frame (by(try dsimp only);omega) (by(have:=dr aC.cv);simp only[go_sem, ↓reduceIte,Nat.reduceEqDiff,Nat.reduceAdd,Nat.reduceSub,Nat.reduceLeDiff,reduceCtorEq,this]) (by(have:=dr aC.tv);simp only[go_sem, ↓reduceIte,Nat.reduceEqDiff,Nat.reduceAdd,Nat.reduceSub,Nat.reduceLeDiff,reduceCtorEq,this])) hP.set Rp (aA es i).aL (aA es i).aT ht,?_⟩
    refine hN _ _ ?_
    clear hN N
    have EX:Fw s es i=iI s (ez s es i) (aA es i).aL (aA es i).aT:=by rw[Fw,ht,Bool.true_and]
    cases hf:iI s (ez s es i) (aA es i).aL (aA es i).aT
    ·rw[hf]at rj EX
     have nz:=pD fe kj (by rw[fb,EX];rfl)
     rw[EX]at nz
     (try((repeat(revert hN;revert N;apply Pn.out));refine wk (tw @a26 (tw @ag0 (tw @ag1 (tw @a1 (tw @a2 (tw @a4 (tw @a7 (tw @a24 (tw @a25 (tw @rj @iV)))))))))) ?_;(repeat(refine Pn.mk ?_;intro N hN))))
     exact eV (.inl rfl) (vs:=[.agg [.bD],.int .i64 (i:Int),.int .i64 5]) (sd (tw @a26 (tw @ag0 (tw @ag1 (tw @a1 (tw @a2 (tw @a4 (tw @a7 (tw @a24 @a25))))))))) (by
      rw[Ed,hr,nz]
      exact⟨.bD,rfl,.inl ⟨by simp,rfl⟩,by(try dsimp only);omega,fun x hx=>by
       have h:=dr (i:=x) (n:=st_a.next) (by omega)
       have h2:=dr hx
       have h3:=aK x hx
       simp only[go_sem, ↓reduceIte,Nat.reduceEqDiff,Nat.reduceAdd,Nat.reduceSub,Nat.reduceLeDiff,reduceCtorEq,h,h2,h3]⟩)
    ·rw[hf]at rj EX
     obtain⟨rws,DW⟩:∃rws,s.bh.ai++es.take i=rws:=⟨_,rfl⟩
     have rn:(rws.map aa).length=(ez s es i).length:=by rw[List.length_map,<-DW];exact me
     rw[DW]at aC Rp
     have rC:=aC.row
     have rT:=aC.tl
     have vC:=dr (i:=c) (n:=st_a.next) (by omega)
     have vT:=dr (i:=T) (n:=st_a.next) (by omega)
     have v0:=dr (i:=⟨148000000,σ.next⟩) (n:=st_a.next) (by(try dsimp only);omega)
     have v1:=dr (i:=⟨148000001,σ.next⟩) (n:=st_a.next) (by(try dsimp only);omega)
     by_cases h6:500<=(ez s es i).length
     ·have nz:=pD fe kj (by rw[fb,EX,Bool.true_and];exact decide_eq_false (by omega))
      rw[EX]at nz
      have PV:(500:Int)<=((ez s es i).length:Int):=by omega
      (try((repeat(revert hN;revert N;apply Pn.out));refine wk (tw @a26 (tw @ag0 (tw @ag1 (tw @a1 (tw @a2 (tw @a4 (tw @a7 (tw @a24 (tw @a25 (tw @rj (tw @iV (tw @rC (tw @rT (tw @vC (tw @vT (tw @rn @PV)))))))))))))))) ?_;(repeat(refine Pn.mk ?_;intro N hN))))
      exact eV (.inl rfl) (vs:=[.agg [.bD],.int .i64 0,.int .i64 4]) (sd (tw @a26 (tw @ag0 (tw @ag1 (tw @a1 (tw @a2 (tw @a4 (tw @a7 (tw @a24 @a25))))))))) (by
       rw[Ed,hr,nz]
       exact⟨.bD,rfl,.inl ⟨by simp,rfl⟩,by(try dsimp only);omega,fun x hx=>by
        have h:=dr (i:=x) (n:=st_a.next) (by omega)
        have h2:=dr hx
        have h3:=aK x hx
        simp only[go_sem, ↓reduceIte,Nat.reduceEqDiff,Nat.reduceAdd,Nat.reduceSub,Nat.reduceLeDiff,reduceCtorEq,h,h2,h3]⟩)
     ·have PV:¬(500:Int)<=((ez s es i).length:Int):=by omega
      have tb:fb s es i=true:=by rw[fb,EX,Bool.true_and];exact decide_eq_true (by omega)
      (try((repeat(revert hN;revert N;apply Pn.out));refine wk (tw @a26 (tw @ag0 (tw @ag1 (tw @a1 (tw @a2 (tw @a4 (tw @a7 (tw @a24 (tw @a25 (tw @rj (tw @iV (tw @rC (tw @rT (tw @vC (tw @vT (tw @rn @PV)))))))))))))))) ?_;(repeat(refine Pn.mk ?_;intro N hN))))
      have M7:vk (aA es i).aL=true:=by simp[iI]at hf;exact hf.1.1
      have kq:=MR.no (qd Ct hf)
      (try dsimp only at kq)
      rw[DW]at kq
      refine .inr (aE _ _ _ _ _ (fun r σ2 hq=>?_) (Ld (σ:=⟨bQ (bQ st_a.get ⟨148008003,st_a.next+1⟩ ⟨true,3,[[.int .i64 0,.int .i64 0,.int .i64 0]]⟩) ⟨148008003,st_a.next+1⟩ ⟨true,3,[[.int .i64 (aA es i).aL.fc,.int .i64 (aA es i).aL.eR,.int .i64 (aA es i).aT]]⟩,st_a.next+1+1+1+1+1⟩) (aC.frame (by(try dsimp only);omega) fun x hx=>by
       have h9:=dr hx
       simp only[go_sem, ↓reduceIte,Nat.reduceEqDiff,Nat.reduceAdd,Nat.reduceSub,Nat.reduceLeDiff,reduceCtorEq,h9]) hP.set Rp (aA es i).aL M7 (aA es i).aT ht kq))
      obtain⟨g2,x2⟩:=σ2
      obtain⟨rfl,EI,EU,tF⟩:=hq
      (try dsimp only at EI EU tF)
      have m0:=tF ⟨148000000,σ.next⟩ (by(try dsimp only);omega) (nv (by(try dsimp only);omega)) (nv (by(try dsimp only);omega))
      have m1:=tF ⟨148000001,σ.next⟩ (by(try dsimp only);omega) (nv (by(try dsimp only);omega)) (nv (by(try dsimp only);omega))
      simp only[go_sem, ↓reduceIte,Nat.reduceEqDiff,Nat.reduceAdd,Nat.reduceSub,Nat.reduceLeDiff,reduceCtorEq,v0,v1,a26,ag0,ag1,a1,a2,a4,a7,a24,a25]at m0 m1
      have vd:(⟨(aA es i).aL,(aA es i).aT⟩:ab)=aA es i:=rfl
      rw[vd,<-DW,List.append_assoc,<-nq fe]at EI
      have Sk:∀y:Id,y.bE<σ.next->g2 y=σ.get y:=fun y hy=>by
       have h3:=tF y (by omega) (nv (by omega)) (nv (by omega))
       have h4:=dr (i:=y) (n:=st_a.next) (by omega)
       have h5:=aK y hy
       simp only[go_sem, ↓reduceIte,Nat.reduceEqDiff,Nat.reduceAdd,Nat.reduceSub,Nat.reduceLeDiff,reduceCtorEq,h4,h5]at h3
       exact h3
      refine hN _ _ ?_
      clear hN N
      (try((repeat(revert hN;revert N;apply Pn.out));refine wk (tw @a26 (tw @ag0 (tw @ag1 (tw @a1 (tw @a2 (tw @a4 (tw @a7 (tw @a24 @a25)))))))) ?_;(repeat(refine Pn.mk ?_;intro N hN))))
      refine cw ?_ ?_ ?_ (tb) (by(try dsimp only);exact⟨by omega,EI.frame (by(try dsimp only);omega) fun x hx=>rfl,fun x hx=>Sk x hx⟩)
      all_goals simp only[go_sem, ↓reduceIte,Nat.reduceEqDiff,Nat.reduceAdd,Nat.reduceSub,Nat.reduceLeDiff,reduceCtorEq,a26,ag0,ag1,a1,a2,a4,a7,a24,a25,m0,m1]
  ·have kF:i=es.length:=by omega
   subst kF
   have nz:=GO kj
   have JX:s.bh.ai++es.take es.length≠[]:=fun e=>by have:=congrArg List.length e;rw[List.length_append,List.length_nil]at this;omega
   (try((repeat(revert hN;revert N;apply Pn.out));refine wk (tw @a26 (tw @ag0 (tw @ag1 (tw @a1 (tw @a2 (tw @a4 (tw @a7 (tw @a24 (tw @a25 @hi))))))))) ?_;(repeat(refine Pn.mk ?_;intro N hN))))
   refine .inr (aE _ _ _ _ _ (fun r σ2 hq=>?_) (Eh (σ:=⟨st_a.get,_⟩) (L:=ez s es es.length) (aC.frame (by(try dsimp only);omega) fun x _=>rfl) (by have:=me;(try dsimp only at this);omega) JX Ct.1.Lo MR.perm))
   obtain⟨g2,x2⟩:=σ2
   obtain⟨o,rfl,q1,q2,q3,q4,q5⟩:=hq
   (try dsimp only at q1 q2 q3 q4 q5)
   have m1:=(q5 ⟨148000001,σ.next⟩ (by(try dsimp only);omega) (nv (by(try dsimp only);omega))).trans ag1
   refine hN _ _ ?_
   clear hN N
   (try((repeat(revert hN;revert N;apply Pn.out));refine wk (tw @a26 (tw @ag0 (tw @ag1 (tw @a1 (tw @a2 (tw @a4 (tw @a7 (tw @a24 (tw @a25 @m1))))))))) ?_;(repeat(refine Pn.mk ?_;intro N hN))))
   have vo:(o=(⟨148000001,σ.next⟩:Id))=False:=eq_false fun e=>by rw[e]at q2;(try dsimp only at q2);omega
   exact eV (.inl rfl) (vs:=[.agg [.own o 0 (ez s es es.length).length],.int .i64 0,.int .i64 0]) (sd (tw @a26 (tw @ag0 (tw @ag1 (tw @a1 (tw @a2 (tw @a4 (tw @a7 (tw @a24 @a25))))))))) (by
    rw[Ed,hr,nz]
    exact⟨_,rfl,.inr ⟨rfl,o,rfl,sd (tw @vo @q1),by omega,by(try dsimp only);omega⟩,by(try dsimp only);omega,fun x hx=>by
     have h2:=dr hx
     have h3:=(q5 x (by(try dsimp only);omega) (nv (by omega))).trans (aK x hx)
     simp only[go_sem, ↓reduceIte,Nat.reduceEqDiff,Nat.reduceAdd,Nat.reduceSub,Nat.reduceLeDiff,reduceCtorEq,h2,h3]⟩)
 ·have hr:k7 s es=(0,2):=by rw[k7,h0,if_pos rfl,if_neg h5]
  have hd:decide ((500:Int)<(es.length:Int))=true:=decide_eq_true (by omega)
  rw[ar]at h1 ⊢
  (repeat(first|((repeat(revert hN;revert N;apply Pn.out));refine wk @hd ?_;(repeat(refine Pn.mk ?_;intro N hN)))|((try apply Or.inl);refine⟨_,aq.x (h1) (sd @hd),?_⟩;refine hN _ _ ?_;clear hN N)))
  exact eV (.inl rfl) (vs:=[.agg [.bD],.int .i64 0,.int .i64 2]) (sd @Nat.zero_add) (by
   rw[Ed,hr]
   exact⟨.bD,rfl,.inl ⟨by decide,rfl⟩,by(try dsimp only);omega,fun x hx=>by have h:=dr hx;simp only[go_sem, ↓reduceIte,Nat.reduceEqDiff,Nat.reduceAdd,Nat.reduceSub,Nat.reduceLeDiff,reduceCtorEq,h]⟩)
theorem AX {s:aw} {es:List ab} (h:(k7 s es).2=0):uN s/\es.length<=500/\∀j,j<es.length->fb s es j=true:=by
 unfold k7 at h
 split at h
 ·rename_i h0
  split at h
  ·rename_i h5
   refine⟨sY.1 h0,h5,fun j hj=>?_⟩
   unfold Il at h
   split at h
   ·rename_i hfind
    have:=List.find?_eq_none.1 hfind j (List.mem_range.2 hj)
    simpa using this
   ·split at h<;>simp at h
  ·simp at h
 ·simp at h
noncomputable def Fa (s:aw) (es:List ab):List Int×Int:=if (k7 s es).2=0 then(jx s es es.length,0)else([],(k7 s es).2)
theorem Ea (s:aw) (es:List ab) (hn:fm s.aI) (hg:s.aI.aB.length<=1048576) (ht:s.aI.ai.length<=1048576):∃w,lf az (Fa s es).1 w/\iM Tryz.prog 51 [.agg (ar s),.sl (es.map aa)] (.gD [w,.int .i64 (Fa s es).2]):=by
 have h1:=xq s es hn hg ht
 by_cases h0:(k7 s es).2=0
 ·obtain⟨hP,h5,dx⟩:=AX h0
  have h2:=uB s hP es dx h5
  have hr:Fa s es=(jx s es es.length,0):=by rw[Fa,if_pos h0]
  rw[hr]
  refine⟨_,.inr rfl,?_⟩
  rw[h0]at h1
  refine iM.body eF rfl fun iQ σ=>?_
  clear iQ
  rw[ar]at h1 h2 ⊢
  (repeat(first|((repeat(revert hN;revert N;apply Pn.out));refine wk @Nat.zero_add ?_;(repeat(refine Pn.mk ?_;intro N hN)))|((try apply Or.inl);refine⟨_,aq.x (h1) (sd @Nat.zero_add),?_⟩;refine hN _ _ ?_;clear hN N)|((try apply Or.inl);refine⟨_,aq.x (h2) (sd @Nat.zero_add),?_⟩;refine hN _ _ ?_;clear hN N)))
  exact rP (.inl rfl) (vs:=[.sl ((jx s es es.length).map az),.int .i64 0]) (sd @Nat.zero_add) (by simp only[eW,bB,ae,aj,cr,aJ,Option.map_some])
 ·have hr:Fa s es=([],(k7 s es).2):=by rw[Fa,if_neg h0]
  rw[hr]
  refine⟨.bD,.inl ⟨rfl,rfl⟩,?_⟩
  have hd:decide ((k7 s es).2=0)=false:=decide_eq_false h0
  refine iM.body eF rfl fun iQ σ=>?_
  clear iQ
  rw[ar]at h1 ⊢
  (repeat(first|((repeat(revert hN;revert N;apply Pn.out));refine wk @hd ?_;(repeat(refine Pn.mk ?_;intro N hN)))|((try apply Or.inl);refine⟨_,aq.x (h1) (sd @hd),?_⟩;refine hN _ _ ?_;clear hN N)))
  exact rP (.inl rfl) (vs:=[.bD,.int .i64 (k7 s es).2]) (sd @Nat.zero_add) (by simp only[eW,bB,ae,aj,aY,aJ,Option.map_some])
theorem OM {m:Int} {d:Nat} (hd:d<4) (h0:0<=m) (h1:m<p2 d):dE .or .i64 m (p2 d)=some (.int .i64 (m+p2 d)):=by
 have:d=0∨d=1∨d=2∨d=3:=by omega
 rcases this with rfl|rfl|rfl|rfl
 ·have:m=0:=by have h:p2 0=1:=rfl;omega
  subst this;rfl
 ·have h:p2 1=2:=rfl
  have:m=0∨m=1:=by omega
  rcases this with rfl|rfl<;>rfl
 ·have h:p2 2=4:=rfl
  have:m=0∨m=1∨m=2∨m=3:=by omega
  rcases this with rfl|rfl|rfl|rfl<;>rfl
 ·have h:p2 3=8:=rfl
  have:m=0∨m=1∨m=2∨m=3∨m=4∨m=5∨m=6∨m=7:=by omega
  rcases this with rfl|rfl|rfl|rfl|rfl|rfl|rfl|rfl<;>rfl
def mj (s:aw) (es:List ab) (ve vi vs:AV):Row:=⟨true,8,[[.sl (s.aI.aB.map cq),.sl (s.aI.ai.map bJ),.sl (s.bh.ai.map aa),.int .i64 s.ay,.sl (es.map aa),ve,vi,vs]]⟩
def Rk (s:aw) (es:List ab) (ve:AV) (m:Nat) (X:Id) (i:Nat) (g:Rows) (n:Nat):Prop:=∃vi vs:AV,g X=some (mj s es ve vi vs)/\((i=0/\vi=.bD/\vs=.bD)∨∃(u v:Id) (L:List Int),vi=.own u 0 i/\vs=.own v 0 i/\g u=some ⟨true,1,(jx s es i).map az⟩/\g v=some ⟨true,1,L.map az⟩/\L.length=i/\0<i/\m<=u.bE/\m<=v.bE/\u.bE<n/\v.bE<n/\u≠v)
theorem Rk.frame {s:aw} {es:List ab} {ve:AV} {m:Nat} {X:Id} {i:Nat} {g g':Rows} {n n':Nat} (h:Rk s es ve m X i g n) (hX:X.bE<n) (hn:n<=n') (hf:∀x:Id,x.bE<n->g' x=g x):Rk s es ve m X i g' n':=by
 obtain⟨vi,vs,h1,h2⟩:=h
 refine⟨vi,vs,(hf X hX).trans h1,?_⟩
 rcases h2 with h2|⟨u,v,L,a1,a2,a3,a4,a5,a6,a7,a8,a9,mD,Jr⟩
 ·exact .inl h2
 ·exact .inr ⟨u,v,L,a1,a2,(hf u a9).trans a3,(hf v mD).trans a4,a5,a6,a7,a8,by omega,by omega,Jr⟩
def U8 (s:aw) (es:List ab) (σ:au) (r:AV) (σ':au):Prop:=
 (((k7 s es).2≠0/\r=.gD [.gT,.int .i64 (k7 s es).2])∨((k7 s es).2=0/\∃(X:Id) (ve vi vs:AV),r=.gD [.ptr X 0 0,.int .i64 0]/\σ'.get X=some (mj s es ve vi vs)/\σ.next<=X.bE/\X.bE<σ'.next/\((es.length=0/\vi=.bD)∨∃u:Id,0<es.length/\vi=.own u 0 es.length/\σ'.get u=some ⟨true,1,(jx s es es.length).map az⟩/\σ.next<=u.bE/\u.bE<σ'.next)))/\Kept σ σ'
theorem K9 (s:aw) (es:List ab) (hn:fm s.aI) (hm:mK s) (hl:es.length<=1048576) (σ:au):Call Tryz.prog 91 [.agg (ar s),.sl (es.map aa)] σ (U8 s es σ):=by
 have hc:=fun σ=>wC s es hn hm hl σ
 refine eJ eF rfl fun iQ=>?_
 clear iQ
 rw[ar]at hc ⊢
 (try((repeat(revert hN;revert N;apply Pn.out));refine wk @Nat.zero_add ?_;(repeat(refine Pn.mk ?_;intro N hN))))
 refine .inr (aE _ _ _ _ _ (fun r σ1 hq=>?_) (hc _))
 obtain⟨g1,x1⟩:=σ1
 obtain⟨v,rfl,hv,hK⟩:=hq
 (try dsimp only at hv hK)
 have rm:=hK.1
 have k2:=hK.2 ⟨91000000,σ.next⟩ (by(try dsimp only);omega)
 (try dsimp only at rm)
 simp only[go_sem, ↓reduceIte,Nat.reduceEqDiff,Nat.reduceAdd,Nat.reduceSub,Nat.reduceLeDiff,reduceCtorEq]at k2
 have HD:∀x:Id,x.bE<σ.next->g1 x=σ.get x:=fun x hx=>by
  have h2:=hK.2 x (by(try dsimp only);omega)
  have h3:=dr hx
  simp only[go_sem, ↓reduceIte,Nat.reduceEqDiff,Nat.reduceAdd,Nat.reduceSub,Nat.reduceLeDiff,reduceCtorEq,h3]at h2
  exact h2
 clear hc hK
 refine hN _ _ ?_
 clear hN N
 rcases hv with⟨gM,rfl⟩|⟨JX,o,rfl,ho,u7,Kj⟩
 ·have hd:decide ((k7 s es).2=0)=false:=decide_eq_false gM
  (try((repeat(revert hN;revert N;apply Pn.out));refine wk (tw @k2 @hd) ?_;(repeat(refine Pn.mk ?_;intro N hN))))
  exact eV (.inl rfl) (vs:=[.gT,.int .i64 (k7 s es).2]) (sd @Nat.zero_add) ⟨.inl ⟨gM,rfl⟩,by(try dsimp only);omega,fun x hx=>by
   have h1:=dr (i:=x) (n:=x1) (by omega)
   have h2:=HD x hx
   simp only[go_sem, ↓reduceIte,Nat.reduceEqDiff,Nat.reduceAdd,Nat.reduceSub,Nat.reduceLeDiff,reduceCtorEq,h1,h2]⟩
 obtain⟨hP,h5,dx⟩:=AX JX
 have S6:=hP.yU.1.yi
 have hso:=hP.some
 have SC:=fun σ=>sG s hP.set s.bh.ai hP.yU σ
 rw[ar]at SC
 have v2:=dr (i:=⟨91000000,σ.next⟩) (n:=x1) (by(try dsimp only);omega)
 (try((repeat(revert hN;revert N;apply Pn.out));refine wk (tw @k2 (tw @JX @v2)) ?_;(repeat(refine Pn.mk ?_;intro N hN))))
 refine .inr (aE _ _ _ _ _ (fun r σ2 hq=>?_) (SC _))
 obtain⟨g2,x2⟩:=σ2
 obtain⟨c,T,O,rfl,hC,Rs,Rr,VD,tK,jH⟩:=hq
 (try dsimp only at hC Rs Rr VD tK jH)
 have kX:=jH ⟨91004004,x1+1+1⟩ (by(try dsimp only);omega)
 have kt:=jH ⟨91000000,σ.next⟩ (by(try dsimp only);omega)
 simp only[go_sem, ↓reduceIte,Nat.reduceEqDiff,Nat.reduceAdd,Nat.reduceSub,Nat.reduceLeDiff,reduceCtorEq,k2,v2]at kX kt
 have hcx:=hC.cv
 have hTx:=hC.tv
 have hOx:=hC.ov
 have EM:∀x:Id,x.bE<σ.next->g2 x=σ.get x:=fun x hx=>by
  have h2:=jH x (by(try dsimp only);omega)
  have h3:=dr (i:=x) (n:=x1) (by omega)
  have h4:=dr (i:=x) (n:=x1+1+1) (by omega)
  have h5:=HD x hx
  simp only[go_sem, ↓reduceIte,Nat.reduceEqDiff,Nat.reduceAdd,Nat.reduceSub,Nat.reduceLeDiff,reduceCtorEq,h3,h4,h5]at h2
  exact h2
 clear SC jH k2 v2 HD
 refine hN _ _ ?_
 clear hN N
 obtain⟨ve,hve⟩:∃ve:AV,AV.own o 0 (ez s es es.length).length=ve:=⟨_,rfl⟩
 rw[hve]at kX
 (try((repeat(revert hN;revert N;apply Pn.out));refine wk (tw @kt @kX) ?_;(repeat(refine Pn.mk ?_;intro N hN))))
 refine aZ (fun n env st=>∃i:Nat,n=(es.length)-i/\i<=(es.length)/\env 39=.int .i64 (i:Int)/\st.get ⟨91000000,σ.next⟩=some ⟨true,4,[[.sl (s.aI.aB.map cq),.sl (s.aI.ai.map bJ),.sl (s.bh.ai.map aa),.int .i64 s.ay]]⟩/\(x2<=st.next/\jQ st.get st.next c T O s (s.bh.ai++es.take i)/\Rk s es ve x2 ⟨91004004,x1+1+1⟩ i st.get st.next/\∀x:Id,x.bE<σ.next->st.get x=σ.get x)) (es.length) ⟨0,by omega,by omega,sl (tw @kt @kX),sl (tw @kt @kX),by(try dsimp only);exact⟨by omega,by
   have:=hC.frame (g':=g2) (n':=x2+1+1) (by omega) fun x hx=>rfl
   simp only[go_sem, ↓reduceIte,Nat.reduceEqDiff,Nat.reduceAdd,Nat.reduceSub,Nat.reduceLeDiff,reduceCtorEq]
   simpa using this,⟨.bD,.bD,by simp only[go_sem, ↓reduceIte,Nat.reduceEqDiff,Nat.reduceAdd,Nat.reduceSub,Nat.reduceLeDiff,reduceCtorEq,kX];rfl,.inl ⟨rfl,rfl,rfl⟩⟩,fun x hx=>by have h2:=EM x hx;simp only[go_sem, ↓reduceIte,Nat.reduceEqDiff,Nat.reduceAdd,Nat.reduceSub,Nat.reduceLeDiff,reduceCtorEq,h2]⟩⟩ ?_
 rintro n_a env_a st_a ⟨i,rfl,ale,a39,ag0,jO⟩ dy
 have a1:=dy 1 (by kernel_rfl);have a2:=dy 2 (by kernel_rfl);have a9:=dy 9 (by kernel_rfl);have mD:=dy 10 (by kernel_rfl);have a37:=dy 37 (by kernel_rfl);have IT:=dy 38 (by kernel_rfl)
 simp only[go_sem, ↓reduceIte,Nat.reduceEqDiff,Nat.reduceAdd,Nat.reduceSub,Nat.reduceLeDiff,reduceCtorEq,kt,kX]at a1 a2 a9 mD a37 IT
 clear dy
 obtain⟨an,aC,aP,aK⟩:=jO
 have Ct:=lx hP (es:=es) i (by omega) fun j hj=>dx j (by omega)
 have MR:=tU hP (es:=es) i (by omega) fun j hj=>dx j (by omega)
 have Cx:=Ct.1.yi
 have acv:=aC.cv
 have Ms:=aC.tv
 have Ae:=aC.ov
 have nv:∀{x y:Id},x.bE<y.bE->x≠y:=fun h e=>by rw[e]at h;omega
 by_cases hi:(i:Int)<(es.length:Int)
 ·have cw:∀{e:Env} {gg:Rows} {nx:Nat},(e 39=.int .i64 (IntKind.i64.wrap ((i:Int)+1)))->(gg ⟨91000000,σ.next⟩=some ⟨true,4,[[.sl (s.aI.aB.map cq),.sl (s.aI.ai.map bJ),.sl (s.bh.ai.map aa),.int .i64 s.ay]]⟩)->(x2<=nx/\jQ gg nx c T O s (s.bh.ai++es.take (i+1))/\Rk s es ve x2 ⟨91004004,x1+1+1⟩ (i+1) gg nx/\∀x:Id,x.bE<σ.next->gg x=σ.get x)->∃m0,m0<(es.length)-i/\∃i:Nat,m0=(es.length)-i/\i<=(es.length)/\e 39=.int .i64 (i:Int)/\gg ⟨91000000,σ.next⟩=some ⟨true,4,[[.sl (s.aI.aB.map cq),.sl (s.aI.ai.map bJ),.sl (s.bh.ai.map aa),.int .i64 s.ay]]⟩/\(x2<=nx/\jQ gg nx c T O s (s.bh.ai++es.take i)/\Rk s es ve x2 ⟨91004004,x1+1+1⟩ i gg nx/\∀x:Id,x.bE<σ.next->gg x=σ.get x):=fun x1 x2 x3=>⟨_,by omega,i+1,rfl,by omega,(by rw[x1,aD (by omega)]),x2,x3⟩
  have fe:i<es.length:=by omega
  have hg:=dx i fe
  rw[fb,Bool.and_eq_true,Fw,Bool.and_eq_true]at hg
  obtain⟨⟨Gu,Ru⟩,HC⟩:=hg
  have Kl:vk (aA es i).aL=true:=by simp[iI]at Ru;exact Ru.1.1
  obtain⟨hx,hy⟩:=ml Kl
  have iV:=fw fe
  have jc:(es.map aa).length=es.length:=by simp
  (try((repeat(revert hN;revert N;apply Pn.out));refine wk (tw @a39 (tw @ag0 (tw @a1 (tw @a2 (tw @a9 (tw @mD (tw @a37 (tw @IT (tw @hi (tw @iV (tw @jc @aa.eq_1))))))))))) ?_;(repeat(refine Pn.mk ?_;intro N hN))))
  refine aZ (fun n env st=>∃d:Nat,n=(4)-d/\d<=(4)/\env 43=.int .i64 (d:Int)/\env 13=.int .i64 (iR s (ez s es i) (aA es i) d)/\st.get ⟨91008002,st_a.next+1⟩=some ⟨true,3,[[.int .i64 (aA es i).aL.fc,.int .i64 (aA es i).aL.eR,.int .i64 (aA es i).aT]]⟩/\((∃z:Int,env 14=.int .i64 z)/\st_a.next+2<=st.next/\∀x:Id,x.bE<st_a.next->st.get x=st_a.get x)) (4) ⟨0,by omega,by omega,sl (tw @a39 (tw @ag0 (tw @a1 (tw @a2 (tw @a9 (tw @mD (tw @a37 @IT))))))),sl (tw @a39 (tw @ag0 (tw @a1 (tw @a2 (tw @a9 (tw @mD (tw @a37 @IT))))))),sl (tw @a39 (tw @ag0 (tw @a1 (tw @a2 (tw @a9 (tw @mD (tw @a37 @IT))))))),by(try dsimp only);exact⟨⟨0,sd @Nat.zero_add⟩,by omega,fun x hx=>by
   have h1:=dr hx
   simp only[go_sem, ↓reduceIte,Nat.reduceEqDiff,Nat.reduceAdd,Nat.reduceSub,Nat.reduceLeDiff,reduceCtorEq,h1]⟩⟩ ?_
  rintro n_b env_b st_b ⟨d,rfl,ble,b43,b13,bg0,bI0⟩ fK
  have b1:=fK 1 (by kernel_rfl);have b2:=fK 2 (by kernel_rfl);have b9:=fK 9 (by kernel_rfl);have od:=fK 10 (by kernel_rfl);have qz:=fK 12 (by kernel_rfl);have vp:=fK 37 (by kernel_rfl);have wL:=fK 38 (by kernel_rfl);have BZ:=fK 39 (by kernel_rfl)
  simp only[go_sem, ↓reduceIte,Nat.reduceEqDiff,Nat.reduceAdd,Nat.reduceSub,Nat.reduceLeDiff,reduceCtorEq,a39,ag0,a1,a2,a9,mD,a37,IT]at b1 b2 b9 od qz vp wL BZ
  clear fK
  obtain⟨⟨z,bz⟩,bn,bF⟩:=bI0
  have bC:jQ st_b.get st_b.next c T O s (s.bh.ai++es.take i):=aC.frame (by omega) bF
  have b0:=(bF ⟨91000000,σ.next⟩ (by(try dsimp only);omega)).trans ag0
  by_cases hd:(d:Int)<4
  ·have fE:∀{e:Env} {gg:Rows} {nx:Nat},(e 43=.int .i64 (IntKind.i64.wrap ((d:Int)+1)))->(e 13=.int .i64 (iR s (ez s es i) (aA es i) (d+1)))->(gg ⟨91008002,st_a.next+1⟩=some ⟨true,3,[[.int .i64 (aA es i).aL.fc,.int .i64 (aA es i).aL.eR,.int .i64 (aA es i).aT]]⟩)->((∃z:Int,e 14=.int .i64 z)/\st_a.next+2<=nx/\∀x:Id,x.bE<st_a.next->gg x=st_a.get x)->∃m0,m0<(4)-d/\∃d:Nat,m0=(4)-d/\d<=(4)/\e 43=.int .i64 (d:Int)/\e 13=.int .i64 (iR s (ez s es i) (aA es i) d)/\gg ⟨91008002,st_a.next+1⟩=some ⟨true,3,[[.int .i64 (aA es i).aL.fc,.int .i64 (aA es i).aL.eR,.int .i64 (aA es i).aT]]⟩/\((∃z:Int,e 14=.int .i64 z)/\st_a.next+2<=nx/\∀x:Id,x.bE<st_a.next->gg x=st_a.get x):=fun x1 x2 x3 x4=>⟨_,by omega,d+1,rfl,by omega,(by rw[x1,aD (by omega)]),x2,x3,x4⟩
   have ux:d<4:=by omega
   have dJ:=xX (aA es i).aL d (gr (by omega)) hx hy
   rw[ah,ah]at dJ
   have hm:=AQ s (ez s es i) (aA es i) d
   have hp:=K7 ux
   have te:=GU ux
   have SZ:=OM ux hm.1 hm.2
   simp only[go_sem, ↓reduceIte,Nat.reduceEqDiff,Nat.reduceAdd,Nat.reduceSub,Nat.reduceLeDiff,reduceCtorEq,Option.some.injEq,AV.int.injEq,true_and]at SZ
   (repeat(first|((repeat(revert hN;revert N;apply Pn.out));refine wk (tw @b43 (tw @b13 (tw @bg0 (tw @b1 (tw @b2 (tw @b9 (tw @od (tw @qz (tw @vp (tw @wL (tw @BZ (tw @hd @b0)))))))))))) ?_;(repeat(refine Pn.mk ?_;intro N hN)))|((try apply Or.inl);refine⟨_,aq.x (dJ) (sd (tw @b43 (tw @b13 (tw @bg0 (tw @b1 (tw @b2 (tw @b9 (tw @od (tw @qz (tw @vp (tw @wL (tw @BZ (tw @hd @b0))))))))))))),?_⟩;refine hN _ _ ?_;clear hN N)))
   have xf:=MR.at_ (cH (aA es i).aL d)
   (try dsimp only at xf)
   refine .inl ⟨_,Mr (σ:=⟨st_b.get,st_b.next+1+1+1⟩) (BO.frame bC.Es (by(try dsimp only);omega) rfl rfl) (cH (aA es i).aL d),?_⟩
   refine hN _ _ ?_
   clear hN N
   by_cases h0:0<=gV (ez s es i) (cH (aA es i).aL d)
   ·have om:=Em s.aI hP.set.form (aA es i).aT d (gV (ez s es i) (cH (aA es i).aL d)) Gu (iH.BW Ct _ h0) (gr (by omega))
    rw[ad]at om
    by_cases hb:0<gw s.aI (aA es i).aT d (gV (ez s es i) (cH (aA es i).aL d))
    ·have uy:iR s (ez s es i) (aA es i) (d+1)=iR s (ez s es i) (aA es i) d+p2 d:=by rw[iR,if_pos ⟨h0,hb⟩]
     (repeat(first|((repeat(revert hN;revert N;apply Pn.out));refine wk (tw @b43 (tw @b13 (tw @bg0 (tw @b1 (tw @b2 (tw @b9 (tw @od (tw @qz (tw @vp (tw @wL (tw @BZ (tw @xf (tw @h0 (tw @hb (tw @te (tw @bz @b0)))))))))))))))) ?_;(repeat(refine Pn.mk ?_;intro N hN)))|((try apply Or.inl);refine⟨_,aq.x (om) (sd (tw @b43 (tw @b13 (tw @bg0 (tw @b1 (tw @b2 (tw @b9 (tw @od (tw @qz (tw @vp (tw @wL (tw @BZ (tw @xf (tw @h0 (tw @hb (tw @te (tw @bz @b0))))))))))))))))),?_⟩;refine hN _ _ ?_;clear hN N)))
     refine fE ?_ ?_ ?_ (by(try dsimp only);exact⟨⟨IntKind.i64.wrap (z+gw s.aI (aA es i).aT d (gV (ez s es i) (cH (aA es i).aL d))),sd @Nat.zero_add⟩,by omega,fun x hx=>bF x hx⟩)
     all_goals simp only[go_sem, ↓reduceIte,Nat.reduceEqDiff,Nat.reduceAdd,Nat.reduceSub,Nat.reduceLeDiff,reduceCtorEq,b43,b13,bg0,b1,b2,b9,od,qz,vp,wL,BZ,SZ,uy]
    ·have uy:iR s (ez s es i) (aA es i) (d+1)=iR s (ez s es i) (aA es i) d:=by rw[iR,if_neg (fun h=>hb h.2)]
     (repeat(first|((repeat(revert hN;revert N;apply Pn.out));refine wk (tw @b43 (tw @b13 (tw @bg0 (tw @b1 (tw @b2 (tw @b9 (tw @od (tw @qz (tw @vp (tw @wL (tw @BZ (tw @xf (tw @h0 (tw @hb (tw @bz @b0))))))))))))))) ?_;(repeat(refine Pn.mk ?_;intro N hN)))|((try apply Or.inl);refine⟨_,aq.x (om) (sd (tw @b43 (tw @b13 (tw @bg0 (tw @b1 (tw @b2 (tw @b9 (tw @od (tw @qz (tw @vp (tw @wL (tw @BZ (tw @xf (tw @h0 (tw @hb (tw @bz @b0)))))))))))))))),?_⟩;refine hN _ _ ?_;clear hN N)))
     refine fE ?_ ?_ ?_ (by(try dsimp only);exact⟨⟨z,sd @bz⟩,by omega,fun x hx=>bF x hx⟩)
     all_goals simp only[go_sem, ↓reduceIte,Nat.reduceEqDiff,Nat.reduceAdd,Nat.reduceSub,Nat.reduceLeDiff,reduceCtorEq,b43,b13,bg0,b1,b2,b9,od,qz,vp,wL,BZ,uy]
   ·have uy:iR s (ez s es i) (aA es i) (d+1)=iR s (ez s es i) (aA es i) d:=by rw[iR,if_neg (fun h=>h0 h.1)]
    (try((repeat(revert hN;revert N;apply Pn.out));refine wk (tw @b43 (tw @b13 (tw @bg0 (tw @b1 (tw @b2 (tw @b9 (tw @od (tw @qz (tw @vp (tw @wL (tw @BZ (tw @xf (tw @h0 @b0))))))))))))) ?_;(repeat(refine Pn.mk ?_;intro N hN))))
    refine fE ?_ ?_ ?_ (by(try dsimp only);exact⟨⟨z,sd @bz⟩,by omega,fun x hx=>bF x hx⟩)
    all_goals simp only[go_sem, ↓reduceIte,Nat.reduceEqDiff,Nat.reduceAdd,Nat.reduceSub,Nat.reduceLeDiff,reduceCtorEq,b43,b13,bg0,b1,b2,b9,od,qz,vp,wL,BZ,uy]
  ·have ux:d=4:=by omega
   subst ux
   obtain⟨vi,vs,VK,dC⟩:=aP
   have bX:=(bF ⟨91004004,x1+1+1⟩ (by(try dsimp only);omega)).trans VK
   unfold mj at bX
   have vX:=dr (i:=⟨91004004,x1+1+1⟩) (n:=st_b.next) (by(try dsimp only);omega)
   have vt:=dr (i:=⟨91008002,st_a.next+1⟩) (n:=st_b.next) (by(try dsimp only);omega)
   have v0:=dr (i:=⟨91000000,σ.next⟩) (n:=st_b.next) (by(try dsimp only);omega)
   have vc:=dr (i:=c) (n:=st_b.next) (by omega)
   have vT:=dr (i:=T) (n:=st_b.next) (by omega)
   have vO:=dr (i:=O) (n:=st_b.next) (by omega)
   have cX:=cm (a:=⟨91004004,x1+1+1⟩) (b:=c) (by(try dsimp only);omega)
   have TX:=cm (a:=⟨91004004,x1+1+1⟩) (b:=T) (by(try dsimp only);omega)
   have OX:=cm (a:=⟨91004004,x1+1+1⟩) (b:=O) (by(try dsimp only);omega)
   have Rp:∀y,0<=gV (s.bh.ai++es.take i) y->ev s.aI (gV (s.bh.ai++es.take i) y)=true:=fun y hy=>by
    rw[MR.at_]at hy ⊢
    exact iH.BW Ct y hy
   have kq:=MR.no (qd Ct Ru)
   (try dsimp only at kq)
   have vd:(⟨(aA es i).aL,(aA es i).aT⟩:ab)=aA es i:=rfl
   have Ry:=zD s es i
   have yJ:((jx s es i).map az).length=i:=by rw[List.length_map,kz]
   rcases dC with⟨uZ,rfl,rfl⟩|⟨u,v,L,rfl,rfl,p3,p4,p5,p6,p7,p8,p9,p10,p11⟩
   ·(try((repeat(revert hN;revert N;apply Pn.out));refine wk (tw @b43 (tw @b13 (tw @bg0 (tw @b1 (tw @b2 (tw @b9 (tw @od (tw @qz (tw @vp (tw @wL (tw @BZ (tw @hd (tw @bX (tw @vX @bz)))))))))))))) ?_;(repeat(refine Pn.mk ?_;intro N hN))))
    refine .inr (aE _ _ _ _ _ (fun r σ3 hq=>?_) (Ld (by
     refine bC.three (by(try dsimp only);omega) ?_ ?_ ?_
     ·simp only[go_sem, ↓reduceIte,Nat.reduceEqDiff,Nat.reduceAdd,Nat.reduceSub,Nat.reduceLeDiff,reduceCtorEq,vc,cX]
     ·simp only[go_sem, ↓reduceIte,Nat.reduceEqDiff,Nat.reduceAdd,Nat.reduceSub,Nat.reduceLeDiff,reduceCtorEq,vT,TX]
     ·simp only[go_sem, ↓reduceIte,Nat.reduceEqDiff,Nat.reduceAdd,Nat.reduceSub,Nat.reduceLeDiff,reduceCtorEq,vO,OX]) hP.set Rp (aA es i).aL Kl (aA es i).aT Gu kq))
    obtain⟨g3,x3⟩:=σ3
    obtain⟨rfl,EI,EU,tF⟩:=hq
    (try dsimp only at EI EU tF)
    have m0:=tF ⟨91000000,σ.next⟩ (by(try dsimp only);omega) (nv (by(try dsimp only);omega)) (nv (by(try dsimp only);omega))
    have mX:=tF ⟨91004004,x1+1+1⟩ (by(try dsimp only);omega) (nv (by(try dsimp only);omega)) (nv (by(try dsimp only);omega))
    have mu:=tF ⟨91020007,st_b.next+1⟩ (by(try dsimp only);omega) (fun e=>by rw[<-e]at Ms;(try dsimp only at Ms);omega) (fun e=>by rw[<-e]at Ae;(try dsimp only at Ae);omega)
    have mv:=tF ⟨91021007,st_b.next+1+1⟩ (by(try dsimp only);omega) (fun e=>by rw[<-e]at Ms;(try dsimp only at Ms);omega) (fun e=>by rw[<-e]at Ae;(try dsimp only at Ae);omega)
    simp only[go_sem, ↓reduceIte,Nat.reduceEqDiff,Nat.reduceAdd,Nat.reduceSub,Nat.reduceLeDiff,reduceCtorEq,v0,vX,b0]at m0 mX mu mv
    rw[vd,List.append_assoc,<-nq fe]at EI
    have Sk:∀y:Id,y.bE<σ.next->g3 y=σ.get y:=fun y hy=>by
     have h3:=tF y (by omega) (nv (by omega)) (nv (by omega))
     have h4:=dr (i:=y) (n:=st_b.next) (by omega)
     have h6:=cm (a:=y) (b:=⟨91004004,x1+1+1⟩) (by(try dsimp only);omega)
     have h5:=(bF y (by omega)).trans (aK y hy)
     simp only[go_sem, ↓reduceIte,Nat.reduceEqDiff,Nat.reduceAdd,Nat.reduceSub,Nat.reduceLeDiff,reduceCtorEq,h4,h5,h6]at h3
     exact h3
    refine hN _ _ ?_
    clear hN N
    (try((repeat(revert hN;revert N;apply Pn.out));refine wk (tw @a39 (tw @ag0 (tw @a1 (tw @a2 (tw @a9 (tw @mD (tw @a37 (tw @IT (tw @b43 (tw @b13 (tw @bg0 (tw @b1 (tw @b2 (tw @b9 (tw @od (tw @qz (tw @vp (tw @wL @BZ)))))))))))))))))) ?_;(repeat(refine Pn.mk ?_;intro N hN))))
    refine cw ?_ ?_ (by(try dsimp only);exact⟨by(try dsimp only);omega,EI.frame (by(try dsimp only);omega) fun x hx=>rfl,⟨_,_,mX,.inr ⟨_,_,[z],by rw[uZ],by rw[uZ],by rw[mu,Ry,uZ];rfl,mv,by rw[uZ];rfl,by omega,by(try dsimp only);omega,by(try dsimp only);omega,by(try dsimp only);omega,by(try dsimp only);omega,by simp⟩⟩,fun x hx=>Sk x hx⟩)
    all_goals simp only[go_sem, ↓reduceIte,Nat.reduceEqDiff,Nat.reduceAdd,Nat.reduceSub,Nat.reduceLeDiff,reduceCtorEq,a39,ag0,a1,a2,a9,mD,a37,IT,b43,b13,bg0,b1,b2,b9,od,qz,vp,wL,BZ,m0]
   ·have bu:=(bF u (by omega)).trans p3
    have bv:=(bF v (by omega)).trans p4
    have vu:=dr (i:=u) (n:=st_b.next) (by omega)
    have vv:=dr (i:=v) (n:=st_b.next) (by omega)
    have JZ:(L.map az).length=i:=by rw[List.length_map];exact p5
    have On:i<=16777215:=by omega
    have e1:=eq_false p11
    have e2:=eq_false (Ne.symm p11)
    have Xu:=cm (a:=⟨91004004,x1+1+1⟩) (b:=u) (by(try dsimp only);omega)
    have Xv:=cm (a:=⟨91004004,x1+1+1⟩) (b:=v) (by(try dsimp only);omega)
    have cu:=cm (a:=c) (b:=u) (by omega)
    have cv:=cm (a:=c) (b:=v) (by omega)
    have Tu:=cm (a:=T) (b:=u) (by omega)
    have Tv:=cm (a:=T) (b:=v) (by omega)
    have Ou:=cm (a:=O) (b:=u) (by omega)
    have Ov:=cm (a:=O) (b:=v) (by omega)
    have zu:=cm (a:=⟨91000000,σ.next⟩) (b:=u) (by(try dsimp only);omega)
    have zv:=cm (a:=⟨91000000,σ.next⟩) (b:=v) (by(try dsimp only);omega)
    have ub:=cm (a:=u) (b:=⟨91008002,st_a.next+1⟩) (by(try dsimp only);omega)
    have vb:=cm (a:=v) (b:=⟨91008002,st_a.next+1⟩) (by(try dsimp only);omega)
    generalize hML:(jx s es i).map az=ML at bu Ry yJ
    generalize hSL:L.map az=SL at bv JZ
    (try((repeat(revert hN;revert N;apply Pn.out));refine wk (tw @b43 (tw @b13 (tw @bg0 (tw @b1 (tw @b2 (tw @b9 (tw @od (tw @qz (tw @vp (tw @wL (tw @BZ (tw @hd (tw @bX (tw @vX (tw @vt (tw @bz (tw @bu (tw @bv (tw @vu (tw @vv (tw @yJ (tw @JZ (tw @On (tw @e1 (tw @e2 (tw @Xu (tw @Xv (tw @ub @vb)))))))))))))))))))))))))))) ?_;(repeat(refine Pn.mk ?_;intro N hN))))
    refine .inr (aE _ _ _ _ _ (fun r σ3 hq=>?_) (Ld (by
     refine bC.three (by(try dsimp only);omega) ?_ ?_ ?_
     ·simp only[go_sem, ↓reduceIte,Nat.reduceEqDiff,Nat.reduceAdd,Nat.reduceSub,Nat.reduceLeDiff,reduceCtorEq,vc,cX,cu,cv]
     ·simp only[go_sem, ↓reduceIte,Nat.reduceEqDiff,Nat.reduceAdd,Nat.reduceSub,Nat.reduceLeDiff,reduceCtorEq,vT,TX,Tu,Tv]
     ·simp only[go_sem, ↓reduceIte,Nat.reduceEqDiff,Nat.reduceAdd,Nat.reduceSub,Nat.reduceLeDiff,reduceCtorEq,vO,OX,Ou,Ov]) hP.set Rp (aA es i).aL Kl (aA es i).aT Gu kq))
    obtain⟨g3,x3⟩:=σ3
    obtain⟨rfl,EI,EU,tF⟩:=hq
    (try dsimp only at EI EU tF)
    have m0:=tF ⟨91000000,σ.next⟩ (by(try dsimp only);omega) (nv (by(try dsimp only);omega)) (nv (by(try dsimp only);omega))
    have mX:=tF ⟨91004004,x1+1+1⟩ (by(try dsimp only);omega) (nv (by(try dsimp only);omega)) (nv (by(try dsimp only);omega))
    have mu:=tF ⟨91020007,st_b.next+1⟩ (by(try dsimp only);omega) (fun e=>by rw[<-e]at Ms;(try dsimp only at Ms);omega) (fun e=>by rw[<-e]at Ae;(try dsimp only at Ae);omega)
    have mv:=tF ⟨91021007,st_b.next+1+1⟩ (by(try dsimp only);omega) (fun e=>by rw[<-e]at Ms;(try dsimp only at Ms);omega) (fun e=>by rw[<-e]at Ae;(try dsimp only at Ae);omega)
    have WQ:((⟨91020007,st_b.next+1⟩:Id)=v)=False:=eq_false fun e=>by rw[<-e]at p10;(try dsimp only at p10);omega
    have v16:((⟨91021007,st_b.next+1+1⟩:Id)=u)=False:=eq_false fun e=>by rw[<-e]at p9;(try dsimp only at p9);omega
    have v17:((⟨91020007,st_b.next+1⟩:Id)=u)=False:=eq_false fun e=>by rw[<-e]at p9;(try dsimp only at p9);omega
    have v18:((⟨91021007,st_b.next+1+1⟩:Id)=v)=False:=eq_false fun e=>by rw[<-e]at p10;(try dsimp only at p10);omega
    simp only[go_sem, ↓reduceIte,Nat.reduceEqDiff,Nat.reduceAdd,Nat.reduceSub,Nat.reduceLeDiff,reduceCtorEq,v0,vX,b0,zu,zv,Xu,Xv,WQ,v16,v17,v18]at m0 mX mu mv
    rw[vd,List.append_assoc,<-nq fe]at EI
    have Sk:∀y:Id,y.bE<σ.next->g3 y=σ.get y:=fun y hy=>by
     have h3:=tF y (by omega) (nv (by omega)) (nv (by omega))
     have h4:=dr (i:=y) (n:=st_b.next) (by omega)
     have h6:=cm (a:=y) (b:=⟨91004004,x1+1+1⟩) (by(try dsimp only);omega)
     have h7:=cm (a:=y) (b:=u) (by omega)
     have h8:=cm (a:=y) (b:=v) (by omega)
     have h5:=(bF y (by omega)).trans (aK y hy)
     simp only[go_sem, ↓reduceIte,Nat.reduceEqDiff,Nat.reduceAdd,Nat.reduceSub,Nat.reduceLeDiff,reduceCtorEq,h4,h5,h6,h7,h8]at h3
     exact h3
    have hSn:(L++[z]).map az=SL++[[.int .i64 z]]:=by rw[List.map_append,hSL];rfl
    refine hN _ _ ?_
    clear hN N
    (try((repeat(revert hN;revert N;apply Pn.out));refine wk (tw @a39 (tw @ag0 (tw @a1 (tw @a2 (tw @a9 (tw @mD (tw @a37 (tw @IT (tw @b43 (tw @b13 (tw @bg0 (tw @b1 (tw @b2 (tw @b9 (tw @od (tw @qz (tw @vp (tw @wL @BZ)))))))))))))))))) ?_;(repeat(refine Pn.mk ?_;intro N hN))))
    refine cw ?_ ?_ (by(try dsimp only);exact⟨by omega,EI.frame (by(try dsimp only);omega) fun x hx=>rfl,⟨_,_,mX,.inr ⟨_,_,L++[z],rfl,rfl,by rw[mu,Ry],by rw[mv,hSn],by rw[List.length_append,p5];rfl,by omega,by(try dsimp only);omega,by(try dsimp only);omega,by(try dsimp only);omega,by(try dsimp only);omega,by simp⟩⟩,fun x hx=>Sk x hx⟩)
    all_goals simp only[go_sem, ↓reduceIte,Nat.reduceEqDiff,Nat.reduceAdd,Nat.reduceSub,Nat.reduceLeDiff,reduceCtorEq,a39,ag0,a1,a2,a9,mD,a37,IT,b43,b13,bg0,b1,b2,b9,od,qz,vp,wL,BZ,m0]
 ·have kF:i=es.length:=by omega
  subst kF
  obtain⟨vi,vs,VK,dC⟩:=aP
  (try((repeat(revert hN;revert N;apply Pn.out));refine wk (tw @a39 (tw @ag0 (tw @a1 (tw @a2 (tw @a9 (tw @mD (tw @a37 (tw @IT @hi)))))))) ?_;(repeat(refine Pn.mk ?_;intro N hN))))
  exact eV (.inl rfl) (vs:=[.ptr ⟨91004004,x1+1+1⟩ 0 0,.int .i64 0]) (sd (tw @a39 (tw @ag0 (tw @a1 (tw @a2 (tw @a9 (tw @mD (tw @a37 @IT)))))))) ⟨.inr ⟨JX,⟨91004004,x1+1+1⟩,ve,vi,vs,rfl,sd @VK,by(try dsimp only);omega,by(try dsimp only);omega,by
   rcases dC with⟨q1,q2,_⟩|⟨u,v,L,q1,_,q3,_,_,q6,q7,_,q9,_⟩
   ·exact .inl ⟨q1,q2⟩
   ·exact .inr ⟨u,q6,q1,sd @q3,by omega,by(try dsimp only);omega⟩⟩,by(try dsimp only);omega,fun x hx=>by
   have h2:=aK x hx
   simp only[go_sem, ↓reduceIte,Nat.reduceEqDiff,Nat.reduceAdd,Nat.reduceSub,Nat.reduceLeDiff,reduceCtorEq,h2]⟩
theorem D9 (s:aw) (es:List ab) (hn:fm s.aI) (hm:mK s) (hl:es.length<=1048576):qJ Tryz.prog 53 [.agg (ar s),.sl (es.map aa)] az 1 (Fa s es).1 (Fa s es).2:=by
 intro n0
 have hc:=fun σ=>K9 s es hn hm hl σ
 by_cases h0:(k7 s es).2=0
 ·have hr:Fa s es=(jx s es es.length,0):=by rw[Fa,if_pos h0]
  rw[hr]
  refine eJ eF rfl fun iQ=>?_
  clear iQ
  rw[ar]at hc ⊢
  (try((repeat(revert hN;revert N;apply Pn.out));refine wk @Nat.zero_add ?_;(repeat(refine Pn.mk ?_;intro N hN))))
  refine .inr (aE _ _ _ _ _ (fun r σ1 hq=>?_) (hc _))
  obtain⟨g1,x1⟩:=σ1
  obtain⟨hq,hK⟩:=hq
  (try dsimp only at hq hK)
  have rm:=hK.1
  (try dsimp only at rm)
  clear hc hK
  refine hN _ _ ?_
  clear hN N
  rcases hq with⟨gM,rfl⟩|⟨JX,X,ve,vi,vs,rfl,hX,hX1,J0,dC⟩
  ·exact absurd h0 gM
  unfold mj at hX
  have vX:=dr (i:=X) (n:=x1) J0
  rcases dC with⟨q1,rfl⟩|⟨u,q1,rfl,q3,q4,q5⟩
  ·(try((repeat(revert hN;revert N;apply Pn.out));refine wk (tw @hX @vX) ?_;(repeat(refine Pn.mk ?_;intro N hN))))
   exact eV (.inl rfl) (vs:=[.bD,.int .i64 0]) (sd @Nat.zero_add) ⟨.bD,[],rfl,.inl ⟨by rw[q1];rfl,rfl,rfl⟩,⟨List.nodup_nil,fun i hi=>by cases hi⟩⟩
  ·(try((repeat(revert hN;revert N;apply Pn.out));refine wk (tw @hX @vX) ?_;(repeat(refine Pn.mk ?_;intro N hN))))
   exact eV (.inl rfl) (vs:=[.own u 0 es.length,.int .i64 0]) (sd @Nat.zero_add) ⟨.own u 0 es.length,[u],rfl,.inr ⟨u,by rw[kz],q3,rfl,by rw[kz];exact q1⟩,⟨List.nodup_cons.2 ⟨by simp,List.nodup_nil⟩,fun i hi=>by rw[List.mem_singleton.1 hi];(try dsimp only);omega⟩⟩
 ·have hr:Fa s es=([],(k7 s es).2):=by rw[Fa,if_neg h0]
  rw[hr]
  have hd:decide ((k7 s es).2=0)=false:=decide_eq_false h0
  refine eJ eF rfl fun iQ=>?_
  clear iQ
  rw[ar]at hc ⊢
  (try((repeat(revert hN;revert N;apply Pn.out));refine wk @Nat.zero_add ?_;(repeat(refine Pn.mk ?_;intro N hN))))
  refine .inr (aE _ _ _ _ _ (fun r σ1 hq=>?_) (hc _))
  obtain⟨g1,x1⟩:=σ1
  obtain⟨hq,hK⟩:=hq
  (try dsimp only at hq hK)
  have rm:=hK.1
  (try dsimp only at rm)
  clear hc hK
  refine hN _ _ ?_
  clear hN N
  rcases hq with⟨gM,rfl⟩|⟨JX,_⟩
  ·(try((repeat(revert hN;revert N;apply Pn.out));refine wk @hd ?_;(repeat(refine Pn.mk ?_;intro N hN))))
   exact eV (.inl rfl) (vs:=[.bD,.int .i64 (k7 s es).2]) (sd @Nat.zero_add) ⟨.bD,[],rfl,.inl ⟨rfl,rfl,rfl⟩,⟨List.nodup_nil,fun i hi=>by cases hi⟩⟩
  ·exact absurd JX h0
theorem Dk {s:aw} {es:List ab} {i:Nat}:∀j,i<j->j<=es.length->aA es i∈ez s es j
 |0,h,_=>by omega
 |j+1,h,hj=>by
  rw[nh s es (by omega)]
  by_cases xi:i=j
  ·subst xi;exact lr.2 (.inl rfl)
  ·exact lr.2 (.inr (Dk j (by omega) (by omega)))
theorem TB {s:aw} (hP:uN s) {es:List ab} (dx:∀j,j<es.length->fb s es j=true) {i j:Nat} (xi:i<j) (hj:j<es.length):(aA es i).aL≠(aA es j).aL:=by
 have hA:=lx hP (es:=es) j (by omega) fun k hk=>dx k (by omega)
 have hg:=dx j hj
 rw[fb,Bool.and_eq_true,Fw,Bool.and_eq_true]at hg
 exact nJ.1 (qd hA hg.1.2) _ (Dk j xi (by omega))
def yu (m d:Int):Int:=IntKind.i64.wrap ((BitVec.ofInt IntKind.i64.bits (m.fdiv (2 ^ min d.toNat 64))&&& BitVec.ofInt IntKind.i64.bits 1).toNat)
theorem F8 (m d:Int):dE .and .i64 (m.fdiv (2 ^ min d.toNat 64)) 1=some (.int .i64 (yu m d)):=rfl
theorem Sw (m d:Int) (h0:0<=d):aq Tryz.prog 152 [.int .i64 m,.int .i64 d] (.bool (decide (yu m d=1))):=by
 refine aq.body eF rfl fun iQ n0=>?_
 clear iQ
 have h1:¬d<0:=by omega
 have h2:=F8 m d
 simp only[go_sem, ↓reduceIte,Nat.reduceEqDiff,Nat.reduceAdd,Nat.reduceSub,Nat.reduceLeDiff,reduceCtorEq,Option.some.injEq,AV.int.injEq,true_and]at h2
 (try((repeat(revert hN;revert N;apply Pn.out));refine wk @h1 ?_;(repeat(refine Pn.mk ?_;intro N hN))))
 exact bc (b:=decide (yu m d=1)) (.inl rfl) (sd @h2) rfl
theorem Pp:Rh aa (fun c=>.agg (aa c)) 3 true:=⟨fun _=>rfl,fun _=>rfl,fun x g=>by simp only[aa,ae,aj,bf,aJ,Option.map_some]⟩
def wJ (p:aM) (x:ab):Bool:=decide (x.aL=p)
theorem R0 (p:aM) (x:ab):aq Tryz.prog 187 [.agg (aa x),.du (ah p)] (.bool (wJ p x)):=by
 refine aq.body eF rfl fun hl n0=>?_
 clear hl
 (try((repeat(revert hN;revert N;apply Pn.out));refine wk (tw @aa.eq_1 @ah.eq_1) ?_;(repeat(refine Pn.mk ?_;intro N hN))))
 exact bc (b:=decide (x.aL.fc=p.fc)&&decide (x.aL.eR=p.eR)) (.inl rfl) (sd @Nat.zero_add) (by
  rw[wJ,<-Bool.decide_and]
  exact decide_eq_decide.2 ⟨fun h=>by rcases x with⟨⟨a,b⟩,c⟩;rcases p with⟨a',b'⟩;simp at h ⊢;exact h,fun h=>by rw[h];exact⟨rfl,rfl⟩⟩)
theorem Kx (es:List ab) (hl:es.length<=1048576) (p:aM):aq Tryz.prog 186 [.sl (es.map aa),.fn 187 [.du (ah p)]] (.int .i64 (gL (wJ p) es)):=
 pk Pp (show lV Tryz.prog 186=some (tM 186 3 true) by kernel_rfl) es hl 187 _ _ (fun x _=>R0 p x) fun g=>by simp only[ae,aj,aW,Option.map_some]
def mY (ins:List Int) (k:Nat):Int:=ins.getD k 0
def Dh (es:List ab) (ins:List Int) (i d:Nat):Bool:=decide ((i:Int)<gL (wJ (cH (aA es i).aL d)) es)&&decide (yu (mY ins (gL (wJ (cH (aA es i).aL d)) es).toNat) (kN d)=1)
def jf (es:List ab) (ins:List Int) (i:Nat):Nat->Int
 |0=>0
 |d+1=>if Dh es ins i d=true then jf es ins i d+p2 d else jf es ins i d
theorem AW (es:List ab) (ins:List Int) (i:Nat):∀d,0<=jf es ins i d/\jf es ins i d<p2 d
 |0=>by simp[jf,p2]
 |d+1=>by
  have ih:=AW es ins i d
  have h:p2 (d+1)=p2 d+p2 d:=by unfold p2;rw[Int.pow_succ];omega
  rw[jf,h]
  split<;>omega
theorem Gg {α:Type} (p:α->Bool) (xs:List α):gL p xs<xs.length:=by
 unfold gL
 split<;>omega
def O0 (es:List ab):Prop:=∀i j,i<j->j<es.length->(aA es i).aL≠(aA es j).aL
theorem JQ {es:List ab} (h:O0 es) {k:Nat} (hk:k<es.length) (P:aM):(aA es k).aL=P↔gL (wJ P) es=(k:Int):=by
 have ew:es.findIdx (wJ P)<=es.length:=List.findIdx_le_length
 constructor
 ·intro e
  have h1:es.findIdx (wJ P)=k:=by
   refine(List.findIdx_eq hk).2 ⟨?_,fun j hj=>?_⟩
   ·rw[wJ,<-fx hk,e];exact decide_eq_true rfl
   ·rw[wJ,<-fx (by omega)]
    exact decide_eq_false fun e2=>h j k hj hk (e2.trans e.symm)
  rw[gL,h1,if_pos hk]
 ·intro e
  unfold gL at e
  split at e
  ·rename_i h2
   have h1:es.findIdx (wJ P)=k:=by omega
   have h3:=List.findIdx_getElem (w:=h2)
   simp only[h1]at h3
   rw[wJ,<-fx hk]at h3
   exact of_decide_eq_true h3
  ·omega
def nP (es:List ab) (ins:List Int) (i d j:Nat):Int:=if Dh es ins i d=true/\gL (wJ (cH (aA es i).aL d)) es<(j:Int)then jf es ins i d+p2 d else jf es ins i d
theorem Fu (es:List ab) (ins:List Int) (i d:Nat):nP es ins i d (i+1)=jf es ins i d:=by
 rw[nP,if_neg]
 rintro⟨h1,h2⟩
 unfold Dh at h1
 rw[Bool.and_eq_true]at h1
 have:=of_decide_eq_true h1.1
 omega
theorem K1 (es:List ab) (ins:List Int) (i d:Nat):nP es ins i d es.length=jf es ins i (d+1):=by
 have h:=Gg (wJ (cH (aA es i).aL d)) es
 rw[nP,jf]
 by_cases hb:Dh es ins i d=true
 ·rw[if_pos ⟨hb,h⟩,if_pos hb]
 ·rw[if_neg (fun e=>hb e.1),if_neg hb]
theorem Ig {es:List ab} (hD:O0 es) (ins:List Int) {i d j:Nat} (xi:i<j) (hj:j<es.length):nP es ins i d (j+1)=if (aA es j).aL=cH (aA es i).aL d/\yu (mY ins j) (kN d)=1 then nP es ins i d j+p2 d else nP es ins i d j:=by
 have hf:=JQ hD hj (cH (aA es i).aL d)
 by_cases he:(aA es j).aL=cH (aA es i).aL d
 ·have hk:=hf.1 he
  have hb:Dh es ins i d=decide (yu (mY ins j) (kN d)=1):=by
   unfold Dh;rw[hk,Int.toNat_natCast,decide_eq_true (by omega:(i:Int)<(j:Int)),Bool.true_and]
  have h0:nP es ins i d j=jf es ins i d:=by rw[nP,hk,if_neg (fun e=>by omega)]
  rw[h0]
  by_cases BE:yu (mY ins j) (kN d)=1
  ·rw[nP,hk,hb,if_pos ⟨decide_eq_true BE,by omega⟩,if_pos ⟨he,BE⟩]
  ·rw[nP,hb,if_neg (fun e=>BE (of_decide_eq_true e.1)),if_neg (fun e=>BE e.2)]
 ·have hk:gL (wJ (cH (aA es i).aL d)) es≠(j:Int):=fun e=>he (hf.2 e)
  rw[if_neg (fun e=>he e.1),nP,nP]
  by_cases hc:Dh es ins i d=true/\gL (wJ (cH (aA es i).aL d)) es<(j:Int)
  ·rw[if_pos hc,if_pos ⟨hc.1,by omega⟩]
  ·rw[if_neg hc,if_neg (fun e=>hc ⟨e.1,by omega⟩)]
def mi (es:List ab) (ins:List Int) (i:Nat):List Int:=(List.range i).map fun j=>jf es ins j 4
theorem nf (es:List ab) (ins:List Int) (i:Nat):(mi es ins i).length=i:=by simp[mi]
theorem zL (es:List ab) (ins:List Int) (i:Nat):(mi es ins (i+1)).map az=(mi es ins i).map az++[[.int .i64 (jf es ins i 4)]]:=by simp[mi,List.range_succ,az]
theorem NF (es:List ab) (ins:List Int) (i d j:Nat):0<=nP es ins i d j/\nP es ins i d j<p2 d+p2 d:=by
 have ih:=AW es ins i d
 have:0<p2 d:=by unfold p2;exact Int.pow_pos (by omega)
 rw[nP]
 split<;>omega
theorem AJ (es:List ab) (hl:es.length<=500) (ins:List Int) (hi:ins.length=es.length) (hD:O0 es) (Kl:∀j,j<es.length->vk (aA es j).aL=true):aq Tryz.prog 92 [.sl (es.map aa),.sl (ins.map az)] (.sl ((mi es ins es.length).map az)):=by
 refine aq.body eF rfl fun iQ n0=>?_
 clear iQ
 have jc:(es.map aa).length=es.length:=by simp
 have Kg:(ins.map az).length=es.length:=by simp[hi]
 (try((repeat(revert hN;revert N;apply Pn.out));refine wk @Nat.zero_add ?_;(repeat(refine Pn.mk ?_;intro N hN))))
 refine aZ (fun n env st=>∃i:Nat,n=(es.length)-i/\i<=(es.length)/\env 6=.int .i64 (i:Int)/\(∃o:Id,env 5=.own o 0 i/\st.get o=some ⟨true,1,(mi es ins i).map az⟩/\o.bE<st.next)) (es.length) ⟨0,by omega,by omega,sl @Nat.zero_add,by(try dsimp only);exact⟨⟨92001000,n0+1⟩,sl @Nat.zero_add,sl @Nat.zero_add,by(try dsimp only);omega⟩⟩ ?_
 rintro n_a env_a st_a ⟨i,rfl,ale,a6,jO⟩ dy
 have a0:=dy 0 (by kernel_rfl);have a1:=dy 1 (by kernel_rfl)
 simp only[go_sem, ↓reduceIte,Nat.reduceEqDiff,Nat.reduceAdd,Nat.reduceSub,Nat.reduceLeDiff,reduceCtorEq]at a0 a1
 clear dy
 obtain⟨o,w5,wo,wov⟩:=jO
 by_cases Uy:(i:Int)<(es.length:Int)
 ·have cw:∀{e:Env} {gg:Rows} {nx:Nat},(e 6=.int .i64 (IntKind.i64.wrap ((i:Int)+1)))->(∃o:Id,e 5=.own o 0 (i+1)/\gg o=some ⟨true,1,(mi es ins (i+1)).map az⟩/\o.bE<nx)->∃m0,m0<(es.length)-i/\∃i:Nat,m0=(es.length)-i/\i<=(es.length)/\e 6=.int .i64 (i:Int)/\(∃o:Id,e 5=.own o 0 i/\gg o=some ⟨true,1,(mi es ins i).map az⟩/\o.bE<nx):=fun x1 x2=>⟨_,by omega,i+1,rfl,by omega,(by rw[x1,aD (by omega)]),x2⟩
  have fe:i<es.length:=by omega
  obtain⟨hx,hy⟩:=ml (Kl i fe)
  have iV:=fw fe
  (try((repeat(revert hN;revert N;apply Pn.out));refine wk (tw @a6 (tw @a0 (tw @a1 @Uy))) ?_;(repeat(refine Pn.mk ?_;intro N hN))))
  refine aZ (fun n env st=>∃d:Nat,n=(4)-d/\d<=(4)/\env 8=.int .i64 (d:Int)/\env 7=.int .i64 (jf es ins i d)/\(st_a.next<=st.next/\∀x:Id,x.bE<st_a.next->st.get x=st_a.get x)) (4) ⟨0,by omega,by omega,sl @Nat.zero_add,sl @Nat.zero_add,by(try dsimp only);exact⟨by omega,fun x hx=>rfl⟩⟩ ?_
  rintro n_b env_b st_b ⟨d,rfl,ble,b8,b7,bI0⟩ fK
  have b0:=fK 0 (by kernel_rfl);have b1:=fK 1 (by kernel_rfl);have b5:=fK 5 (by kernel_rfl);have b6:=fK 6 (by kernel_rfl)
  simp only[go_sem, ↓reduceIte,Nat.reduceEqDiff,Nat.reduceAdd,Nat.reduceSub,Nat.reduceLeDiff,reduceCtorEq]at b0 b1 b5 b6
  clear fK
  obtain⟨bn,bF⟩:=bI0
  by_cases hd:(d:Int)<4
  ·have fE:∀{e:Env} {gg:Rows} {nx:Nat},(e 8=.int .i64 (IntKind.i64.wrap ((d:Int)+1)))->(e 7=.int .i64 (jf es ins i (d+1)))->(st_a.next<=nx/\∀x:Id,x.bE<st_a.next->gg x=st_a.get x)->∃m0,m0<(4)-d/\∃d:Nat,m0=(4)-d/\d<=(4)/\e 8=.int .i64 (d:Int)/\e 7=.int .i64 (jf es ins i d)/\(st_a.next<=nx/\∀x:Id,x.bE<st_a.next->gg x=st_a.get x):=fun x1 x2 x3=>⟨_,by omega,d+1,rfl,by omega,(by rw[x1,aD (by omega)]),x2,x3⟩
   have ux:d<4:=by omega
   have dJ:=pY (aA es i).aL d (gr (by omega)) hx hy
   rw[ah,ah]at dJ
   (repeat(first|((repeat(revert hN;revert N;apply Pn.out));refine wk (tw @a6 (tw @a0 (tw @a1 (tw @b8 (tw @b7 (tw @b0 (tw @b1 (tw @b5 (tw @b6 (tw @hd (tw @iV (tw @aa.eq_1 @jc)))))))))))) ?_;(repeat(refine Pn.mk ?_;intro N hN)))|((try apply Or.inl);refine⟨_,aq.x (dJ) (sd (tw @a6 (tw @a0 (tw @a1 (tw @b8 (tw @b7 (tw @b0 (tw @b1 (tw @b5 (tw @b6 (tw @hd (tw @iV (tw @aa.eq_1 @jc))))))))))))),?_⟩;refine hN _ _ ?_;clear hN N)))
   have Qp:IntKind.i64.wrap ((i:Int)+1)=((i+1:Nat):Int):=by rw[bI (by omega)];rfl
   have Uz:=Fu es ins i d
   have Kd:=K1 es ins i d
   refine aZ (fun n env st=>∃j:Nat,n=es.length-j/\i+1<=j/\j<=es.length/\env 10=.int .i64 (j:Int)/\env 7=.int .i64 (nP es ins i d j)/\st.get ⟨92009007,st_b.next+1⟩=some ⟨true,2,[[.int .i64 (cH (aA es i).aL d).fc,.int .i64 (cH (aA es i).aL d).eR]]⟩/\st_b.next+1<st.next/\∀x:Id,x.bE<st_b.next->st.get x=st_b.get x) (es.length-(i+1)) ⟨i+1,rfl,by omega,by omega,sd @Qp,by rw[Uz];simp only[go_sem, ↓reduceIte,Nat.reduceEqDiff,Nat.reduceAdd,Nat.reduceSub,Nat.reduceLeDiff,reduceCtorEq,b8,b7,b0,b1,b5,b6],sd @Nat.zero_add,by(try dsimp only);omega,fun x hx=>by
    have h1:=dr hx
    simp only[go_sem, ↓reduceIte,Nat.reduceEqDiff,Nat.reduceAdd,Nat.reduceSub,Nat.reduceLeDiff,reduceCtorEq,h1]⟩ ?_
   rintro n1 e1 st1 ⟨j,rfl,xi,iA,e10,e7,c9,cn,cF⟩ hk
   have c0:=hk 0 (by kernel_rfl)
   have c1:=hk 1 (by kernel_rfl)
   have c5:=hk 5 (by kernel_rfl)
   have c6:=hk 6 (by kernel_rfl)
   have c8:=hk 8 (by kernel_rfl)
   have Pd:=hk 9 (by kernel_rfl)
   simp only[go_sem, ↓reduceIte,Nat.reduceEqDiff,Nat.reduceAdd,Nat.reduceSub,Nat.reduceLeDiff,reduceCtorEq,a6,a0,a1,b8,b7,b0,b1,b5,b6,w5]at c0 c1 c5 c6 c8 Pd
   clear hk
   by_cases hj:(j:Int)<(es.length:Int)
   ·have iK:j<es.length:=by omega
    have BH:=fw iK
    have xj:j<ins.length:=by omega
    have eX:(ins.map az)[j]? =some [.int .i64 (mY ins j)]:=by
     rw[r9 xj,mY,List.getD_eq_getElem?_getD,List.getElem?_eq_getElem xj,Option.getD_some]
    have eA:=wz d (gr (by omega))
    have M4:¬kN d<0:=by rw[kN,if_pos (gr (by omega))];omega
    have yM:=Ig hD ins (d:=d) (i:=i) (j:=j) (by omega) iK
    have hin2:=NF es ins i d j
    have hp:=K7 ux
    have te:=GU ux
    have J3:=F8 (mY ins j) (kN d)
    simp only[go_sem, ↓reduceIte,Nat.reduceEqDiff,Nat.reduceAdd,Nat.reduceSub,Nat.reduceLeDiff,reduceCtorEq,Option.some.injEq,AV.int.injEq,true_and]at J3
    have OE:IntKind.i64.wrap ((j:Int)+1)=((j+1:Nat):Int):=by rw[bI (by omega)];rfl
    have v9:=dr (i:=⟨92009007,st_b.next+1⟩) (n:=st1.next) (by(try dsimp only);omega)
    by_cases he:(aA es j).aL=cH (aA es i).aL d
    ·have hq:(decide ((aA es j).aL.fc=(cH (aA es i).aL d).fc)&&decide ((aA es j).aL.eR=(cH (aA es i).aL d).eR))=true:=by rw[he];simp
     by_cases hb:yu (mY ins j) (kN d)=1
     ·rw[if_pos ⟨he,hb⟩]at yM
      have hw:IntKind.i64.wrap (nP es ins i d j+p2 d)=nP es ins i d j+p2 d:=bI (by omega)
      (repeat(first|((repeat(revert hN;revert N;apply Pn.out));refine wk (tw @c0 (tw @c1 (tw @c5 (tw @c6 (tw @c8 (tw @Pd (tw @c9 (tw @e10 (tw @e7 (tw @hj (tw @jc (tw @Kg (tw @BH (tw @eX (tw @hq (tw @te (tw @M4 (tw @hb (tw @J3 @aa.eq_1))))))))))))))))))) ?_;(repeat(refine Pn.mk ?_;intro N hN)))|((try apply Or.inl);refine⟨_,aq.x (eA) (sd (tw @c0 (tw @c1 (tw @c5 (tw @c6 (tw @c8 (tw @Pd (tw @c9 (tw @e10 (tw @e7 (tw @hj (tw @jc (tw @Kg (tw @BH (tw @eX (tw @hq (tw @te (tw @M4 (tw @hb (tw @J3 @aa.eq_1)))))))))))))))))))),?_⟩;refine hN _ _ ?_;clear hN N)))
      exact⟨es.length-(j+1),by omega,j+1,rfl,by omega,by omega,sd @OE,by rw[yM];simp only[go_sem, ↓reduceIte,Nat.reduceEqDiff,Nat.reduceAdd,Nat.reduceSub,Nat.reduceLeDiff,reduceCtorEq,hw,e7],sd @c9,by(try dsimp only);omega,fun x hx=>by
       have h1:=cF x hx
       simp only[go_sem, ↓reduceIte,Nat.reduceEqDiff,Nat.reduceAdd,Nat.reduceSub,Nat.reduceLeDiff,reduceCtorEq,h1]⟩
     ·rw[if_neg (fun h=>hb h.2)]at yM
      (repeat(first|((repeat(revert hN;revert N;apply Pn.out));refine wk (tw @c0 (tw @c1 (tw @c5 (tw @c6 (tw @c8 (tw @Pd (tw @c9 (tw @e10 (tw @e7 (tw @hj (tw @jc (tw @Kg (tw @BH (tw @eX (tw @hq (tw @te (tw @M4 (tw @hb (tw @J3 @aa.eq_1))))))))))))))))))) ?_;(repeat(refine Pn.mk ?_;intro N hN)))|((try apply Or.inl);refine⟨_,aq.x (eA) (sd (tw @c0 (tw @c1 (tw @c5 (tw @c6 (tw @c8 (tw @Pd (tw @c9 (tw @e10 (tw @e7 (tw @hj (tw @jc (tw @Kg (tw @BH (tw @eX (tw @hq (tw @te (tw @M4 (tw @hb (tw @J3 @aa.eq_1)))))))))))))))))))),?_⟩;refine hN _ _ ?_;clear hN N)))
      exact⟨es.length-(j+1),by omega,j+1,rfl,by omega,by omega,sd @OE,by rw[yM];simp only[go_sem, ↓reduceIte,Nat.reduceEqDiff,Nat.reduceAdd,Nat.reduceSub,Nat.reduceLeDiff,reduceCtorEq,e7],sd @c9,by(try dsimp only);omega,fun x hx=>by
       have h1:=cF x hx
       simp only[go_sem, ↓reduceIte,Nat.reduceEqDiff,Nat.reduceAdd,Nat.reduceSub,Nat.reduceLeDiff,reduceCtorEq,h1]⟩
    ·have hq:(decide ((aA es j).aL.fc=(cH (aA es i).aL d).fc)&&decide ((aA es j).aL.eR=(cH (aA es i).aL d).eR))=false:=by
      rw[<-Bool.decide_and]
      exact decide_eq_false fun h=>he (by
       generalize cH (aA es i).aL d=P at h
       generalize (aA es j).aL=Q at h
       cases P;cases Q;simp at h;rw[h.1,h.2])
     rw[if_neg (fun h=>he h.1)]at yM
     (try((repeat(revert hN;revert N;apply Pn.out));refine wk (tw @c0 (tw @c1 (tw @c5 (tw @c6 (tw @c8 (tw @Pd (tw @c9 (tw @e10 (tw @e7 (tw @hj (tw @jc (tw @BH (tw @hq @aa.eq_1))))))))))))) ?_;(repeat(refine Pn.mk ?_;intro N hN))))
     exact⟨es.length-(j+1),by omega,j+1,rfl,by omega,by omega,sd @OE,by rw[yM];simp only[go_sem, ↓reduceIte,Nat.reduceEqDiff,Nat.reduceAdd,Nat.reduceSub,Nat.reduceLeDiff,reduceCtorEq,e7],sd @c9,by(try dsimp only);omega,fun x hx=>by
       have h1:=cF x hx
       simp only[go_sem, ↓reduceIte,Nat.reduceEqDiff,Nat.reduceAdd,Nat.reduceSub,Nat.reduceLeDiff,reduceCtorEq,h1]⟩
   ·have V6:j=es.length:=by omega
    subst V6
    rw[Kd]at e7
    (try((repeat(revert hN;revert N;apply Pn.out));refine wk (tw @c0 (tw @c1 (tw @c5 (tw @c6 (tw @c8 (tw @Pd (tw @e10 (tw @e7 (tw @hj @jc))))))))) ?_;(repeat(refine Pn.mk ?_;intro N hN))))
    refine fE ?_ ?_ (by(try dsimp only);exact⟨by omega,fun x hx=>(cF x (by omega)).trans (bF x hx)⟩)
    all_goals simp only[go_sem, ↓reduceIte,Nat.reduceEqDiff,Nat.reduceAdd,Nat.reduceSub,Nat.reduceLeDiff,reduceCtorEq,b8,b7,b0,b1,b5,b6,c0,c1,c5,c6,c8,e7]
  ·have ux:d=4:=by omega
   subst ux
   have bo:=(bF o wov).trans wo
   have vo:=dr (i:=o) (n:=st_b.next) (by omega)
   have yJ:((mi es ins i).map az).length=i:=by rw[List.length_map,nf]
   have Kv:=zL es ins i
   generalize (mi es ins i).map az=OL at bo yJ Kv
   have On:i<=16777215:=by omega
   (try((repeat(revert hN;revert N;apply Pn.out));refine wk (tw @a6 (tw @a0 (tw @a1 (tw @b8 (tw @b7 (tw @b0 (tw @b1 (tw @b5 (tw @b6 (tw @hd (tw @w5 (tw @bo (tw @vo (tw @yJ @On)))))))))))))) ?_;(repeat(refine Pn.mk ?_;intro N hN))))
   exact cw (sd (tw @a6 (tw @a0 (tw @a1 (tw @b8 (tw @b7 (tw @b0 (tw @b1 (tw @b5 @b6))))))))) (by(try dsimp only);exact⟨⟨92015003,st_b.next+1⟩,sl @Nat.zero_add,by rw[Kv];simp only[go_sem, ↓reduceIte,Nat.reduceEqDiff,Nat.reduceAdd,Nat.reduceSub,Nat.reduceLeDiff,reduceCtorEq]<;>rfl,by(try dsimp only);omega⟩)
 ·have kF:i=es.length:=by omega
  subst kF
  (try((repeat(revert hN;revert N;apply Pn.out));refine wk (tw @a6 (tw @a0 (tw @a1 @Uy))) ?_;(repeat(refine Pn.mk ?_;intro N hN))))
  exact l9 (.inl rfl) (vs:=[.own o 0 es.length]) (sd @w5) (by
   simp only[eW]
   exact fu (e:=az) (l:=mi es ins es.length) (sz:=1) wo (nf _ _ _).symm (fun x=>by simp[az,bt,cz,er]))
noncomputable def rM (s:aw) (es:List ab):List Int×Int:=if (k7 s es).2=0 then(mi es (jx s es es.length) es.length,0)else([],(k7 s es).2)
theorem ON {s:aw} {es:List ab} (dx:∀j,j<es.length->fb s es j=true):∀j,j<es.length->vk (aA es j).aL=true:=fun j hj=>by
 have hg:=dx j hj
 rw[fb,Bool.and_eq_true,Fw,Bool.and_eq_true]at hg
 have hf:=hg.1.2
 simp[iI]at hf
 exact hf.1.1
theorem BQ (s:aw) (es:List ab) (hn:fm s.aI) (hg:s.aI.aB.length<=1048576) (ht:s.aI.ai.length<=1048576):∃w,lf az (rM s es).1 w/\iM Tryz.prog 54 [.agg (ar s),.sl (es.map aa)] (.gD [w,.int .i64 (rM s es).2]):=by
 have h1:=xq s es hn hg ht
 by_cases h0:(k7 s es).2=0
 ·obtain⟨hP,h5,dx⟩:=AX h0
  have h2:=uB s hP es dx h5
  have h3:=AJ es h5 (jx s es es.length) (kz _ _ _) (fun i j xi hj=>TB hP dx xi hj) (ON dx)
  have hr:rM s es=(mi es (jx s es es.length) es.length,0):=by rw[rM,if_pos h0]
  rw[hr]
  refine⟨_,.inr rfl,?_⟩
  rw[h0]at h1
  refine iM.body eF rfl fun iQ σ=>?_
  clear iQ
  rw[ar]at h1 h2 ⊢
  (repeat(first|((repeat(revert hN;revert N;apply Pn.out));refine wk @Nat.zero_add ?_;(repeat(refine Pn.mk ?_;intro N hN)))|((try apply Or.inl);refine⟨_,aq.x (h1) (sd @Nat.zero_add),?_⟩;refine hN _ _ ?_;clear hN N)|((try apply Or.inl);refine⟨_,aq.x (h2) (sd @Nat.zero_add),?_⟩;refine hN _ _ ?_;clear hN N)|((try apply Or.inl);refine⟨_,aq.x (h3) (sd @Nat.zero_add),?_⟩;refine hN _ _ ?_;clear hN N)))
  exact rP (.inl rfl) (vs:=[.sl ((mi es (jx s es es.length) es.length).map az),.int .i64 0]) (sd @Nat.zero_add) (by simp only[eW,bB,ae,aj,cr,aJ,Option.map_some])
 ·have hr:rM s es=([],(k7 s es).2):=by rw[rM,if_neg h0]
  rw[hr]
  refine⟨.bD,.inl ⟨rfl,rfl⟩,?_⟩
  have hd:decide ((k7 s es).2=0)=false:=decide_eq_false h0
  refine iM.body eF rfl fun iQ σ=>?_
  clear iQ
  rw[ar]at h1 ⊢
  (repeat(first|((repeat(revert hN;revert N;apply Pn.out));refine wk @hd ?_;(repeat(refine Pn.mk ?_;intro N hN)))|((try apply Or.inl);refine⟨_,aq.x (h1) (sd @hd),?_⟩;refine hN _ _ ?_;clear hN N)))
  exact rP (.inl rfl) (vs:=[.bD,.int .i64 (k7 s es).2]) (sd @Nat.zero_add) (by simp only[eW,bB,ae,aj,aY,aJ,Option.map_some])
theorem HN {σ:au} {X:Id} {s:aw} {es:List ab} {e1 e2 e3:AV} {b:Bool} (hl:es.length<=1048576) (hX:σ.get X=some ⟨b,8,(mj s es e1 e2 e3).rows⟩) (PR:X.bE<σ.next) (p:aM):Call Tryz.prog 151 [.ptr X 0 0,.agg (ah p)] σ (fun r _=>r=.int .i64 (gL (wJ p) es)):=by
 refine eJ eF rfl fun iQ=>?_
 clear iQ
 have BI:=Kx es hl p
 have vX:=dr PR
 unfold mj at hX
 (try dsimp only at hX)
 rw[ah]at BI ⊢
 (repeat(first|((repeat(revert hN;revert N;apply Pn.out));refine wk (tw @hX @vX) ?_;(repeat(refine Pn.mk ?_;intro N hN)))|((try apply Or.inl);refine⟨_,aq.x (BI) (sd (tw @hX @vX)),?_⟩;refine hN _ _ ?_;clear hN N)))
 exact eV (.inl rfl) (vs:=[.int .i64 (gL (wJ p) es)]) (sd @Nat.zero_add) rfl
theorem HO {σ:au} {X:Id} {s:aw} {es:List ab} {e1 e2 e3:AV} {b:Bool} (hl:es.length<=1048576) (hX:σ.get X=some ⟨b,8,(mj s es e1 e2 e3).rows⟩) (PR:X.bE<σ.next) (p:aM):fX (Call Tryz.prog) 151 [.ptr X 0 0,.agg (ah p)] σ (fun r=>r=.int .i64 (gL (wJ p) es)):=by
 unfold fX PC
 exact Or.inl (aE _ _ _ _ _ (fun r σ' hr=>⟨_,by rw[hr];exact aJ _ _ _ _,rfl⟩) (HN (σ:=⟨V.ro σ.get,σ.next⟩) (s:=s) (e1:=e1) (e2:=e2) (e3:=e3) (b:=false) hl (by simp[V.ro,hX]) PR p))
theorem Ii {σ:au} {X u:Id} {s:aw} {es:List ab} {e1 e3:AV} {b b2:Bool} (hl:es.length<=1048576) (ins:List Int) (hi:ins.length=es.length) (hX:σ.get X=some ⟨b,8,(mj s es e1 (.own u 0 es.length) e3).rows⟩) (hu:σ.get u=some ⟨b2,1,ins.map az⟩) (PR:X.bE<σ.next) (WA:u.bE<σ.next) (Kl:∀j,j<es.length->vk (aA es j).aL=true) (i:Nat) (fe:i<es.length):Call Tryz.prog 93 [.ptr X 0 0,.int .i64 (i:Int)] σ (fun r _=>r=.int .i64 (jf es ins i 4)):=by
 refine eJ eF rfl fun iQ=>?_
 clear iQ
 obtain⟨hx,hy⟩:=ml (Kl i fe)
 have iV:=fw fe
 have jc:(es.map aa).length=es.length:=by simp
 have Kg:(ins.map az).length=es.length:=by simp[hi]
 (try((repeat(revert hN;revert N;apply Pn.out));refine wk @Nat.zero_add ?_;(repeat(refine Pn.mk ?_;intro N hN))))
 refine aZ (fun n env st=>∃d:Nat,n=(4)-d/\d<=(4)/\env 8=.int .i64 (d:Int)/\env 5=.int .i64 (jf es ins i d)/\(σ.next<=st.next/\∀x:Id,x.bE<σ.next->st.get x=σ.get x)) (4) ⟨0,by omega,by omega,sl @Nat.zero_add,sl @Nat.zero_add,by(try dsimp only);exact⟨by omega,fun x hx=>by have h1:=dr hx;simp only[go_sem, ↓reduceIte,Nat.reduceEqDiff,Nat.reduceAdd,Nat.reduceSub,Nat.reduceLeDiff,reduceCtorEq]⟩⟩ ?_
 rintro n_b env_b st_b ⟨d,rfl,ble,b8,b5,bI0⟩ fK
 have b0:=fK 0 (by kernel_rfl);have b1:=fK 1 (by kernel_rfl)
 simp only[go_sem, ↓reduceIte,Nat.reduceEqDiff,Nat.reduceAdd,Nat.reduceSub,Nat.reduceLeDiff,reduceCtorEq]at b0 b1
 clear fK
 obtain⟨bn,bF⟩:=bI0
 have bX:=(bF X PR).trans hX
 have bU:=(bF u WA).trans hu
 have vX:=dr (i:=X) (n:=st_b.next) (by omega)
 have vU:=dr (i:=u) (n:=st_b.next) (by omega)
 have L5:=bX
 unfold mj at L5
 (try dsimp only at L5)
 by_cases hd:(d:Int)<4
 ·have fE:∀{e:Env} {gg:Rows} {nx:Nat},(e 8=.int .i64 (IntKind.i64.wrap ((d:Int)+1)))->(e 5=.int .i64 (jf es ins i (d+1)))->(σ.next<=nx/\∀x:Id,x.bE<σ.next->gg x=σ.get x)->∃m0,m0<(4)-d/\∃d:Nat,m0=(4)-d/\d<=(4)/\e 8=.int .i64 (d:Int)/\e 5=.int .i64 (jf es ins i d)/\(σ.next<=nx/\∀x:Id,x.bE<σ.next->gg x=σ.get x):=fun x1 x2 x3=>⟨_,by omega,d+1,rfl,by omega,(by rw[x1,aD (by omega)]),x2,x3⟩
  have ux:d<4:=by omega
  have dJ:=xX (aA es i).aL d (gr (by omega)) hx hy
  have BI:=HO (σ:=⟨st_b.get,st_b.next+1+1+1⟩) hl bX (by(try dsimp only);omega) (cH (aA es i).aL d)
  rw[ah,ah]at dJ
  (repeat(first|((repeat(revert hN;revert N;apply Pn.out));refine wk (tw @b8 (tw @b5 (tw @b0 (tw @b1 (tw @hd (tw @iV (tw @jc (tw @aa.eq_1 (tw @L5 @vX))))))))) ?_;(repeat(refine Pn.mk ?_;intro N hN)))|((try apply Or.inl);refine⟨_,aq.x (dJ) (sd (tw @b8 (tw @b5 (tw @b0 (tw @b1 (tw @hd (tw @iV (tw @jc (tw @aa.eq_1 (tw @L5 @vX)))))))))),?_⟩;refine hN _ _ ?_;clear hN N)))
  refine .inl ⟨_,BI,?_⟩
  refine hN _ _ ?_
  clear hN N
  have eA:=xF d (gr (by omega))
  have hm:=AW es ins i d
  have te:=GU ux
  have SZ:=OM ux hm.1 hm.2
  simp only[go_sem, ↓reduceIte,Nat.reduceEqDiff,Nat.reduceAdd,Nat.reduceSub,Nat.reduceLeDiff,reduceCtorEq,Option.some.injEq,AV.int.injEq,true_and]at SZ
  have HC:=Gg (wJ (cH (aA es i).aL d)) es
  have om:Dh es ins i d=(decide ((i:Int)<gL (wJ (cH (aA es i).aL d)) es)&&decide (yu (mY ins (gL (wJ (cH (aA es i).aL d)) es).toNat) (kN d)=1)):=rfl
  generalize gL (wJ (cH (aA es i).aL d)) es=k at HC om ⊢
  by_cases hk:(i:Int)<k
  ·obtain⟨kn,rfl⟩:∃kn:Nat,k=(kn:Int):=⟨k.toNat,by omega⟩
   have fP:kn<ins.length:=by omega
   have eX:(ins.map az)[kn]? =some [.int .i64 (mY ins kn)]:=by
    rw[r9 fP,mY,List.getD_eq_getElem?_getD,List.getElem?_eq_getElem fP,Option.getD_some]
   have kT:(kn:Int)<(es.length:Int):=by omega
   have hh:=Sw (mY ins kn) (kN d) (by rw[kN,if_pos (gr (by omega))];omega)
   rw[Int.toNat_natCast,decide_eq_true hk,Bool.true_and]at om
   by_cases hb:yu (mY ins kn) (kN d)=1
   ·rw[decide_eq_true hb]at om hh
    have uy:jf es ins i (d+1)=jf es ins i d+p2 d:=by rw[jf,if_pos om]
    (repeat(first|((repeat(revert hN;revert N;apply Pn.out));refine wk (tw @b8 (tw @b5 (tw @b0 (tw @b1 (tw @hk (tw @eX (tw @kT (tw @te (tw @Kg (tw @L5 (tw @bU (tw @vX @vU)))))))))))) ?_;(repeat(refine Pn.mk ?_;intro N hN)))|((try apply Or.inl);refine⟨_,aq.x (eA) (sd (tw @b8 (tw @b5 (tw @b0 (tw @b1 (tw @hk (tw @eX (tw @kT (tw @te (tw @Kg (tw @L5 (tw @bU (tw @vX @vU))))))))))))),?_⟩;refine hN _ _ ?_;clear hN N)|((try apply Or.inl);refine⟨_,aq.x (hh) (sd (tw @b8 (tw @b5 (tw @b0 (tw @b1 (tw @hk (tw @eX (tw @kT (tw @te (tw @Kg (tw @L5 (tw @bU (tw @vX @vU))))))))))))),?_⟩;refine hN _ _ ?_;clear hN N)))
    refine fE ?_ ?_ (by(try dsimp only);exact⟨by omega,fun x hx=>bF x hx⟩)
    all_goals simp only[go_sem, ↓reduceIte,Nat.reduceEqDiff,Nat.reduceAdd,Nat.reduceSub,Nat.reduceLeDiff,reduceCtorEq,b8,b5,b0,b1,SZ,uy]
   ·rw[decide_eq_false hb]at om hh
    have uy:jf es ins i (d+1)=jf es ins i d:=by rw[jf,if_neg (by rw[om];decide)]
    (repeat(first|((repeat(revert hN;revert N;apply Pn.out));refine wk (tw @b8 (tw @b5 (tw @b0 (tw @b1 (tw @hk (tw @eX (tw @kT (tw @te (tw @Kg (tw @L5 (tw @bU (tw @vX @vU)))))))))))) ?_;(repeat(refine Pn.mk ?_;intro N hN)))|((try apply Or.inl);refine⟨_,aq.x (eA) (sd (tw @b8 (tw @b5 (tw @b0 (tw @b1 (tw @hk (tw @eX (tw @kT (tw @te (tw @Kg (tw @L5 (tw @bU (tw @vX @vU))))))))))))),?_⟩;refine hN _ _ ?_;clear hN N)|((try apply Or.inl);refine⟨_,aq.x (hh) (sd (tw @b8 (tw @b5 (tw @b0 (tw @b1 (tw @hk (tw @eX (tw @kT (tw @te (tw @Kg (tw @L5 (tw @bU (tw @vX @vU))))))))))))),?_⟩;refine hN _ _ ?_;clear hN N)))
    refine fE ?_ ?_ (by(try dsimp only);exact⟨by omega,fun x hx=>bF x hx⟩)
    all_goals simp only[go_sem, ↓reduceIte,Nat.reduceEqDiff,Nat.reduceAdd,Nat.reduceSub,Nat.reduceLeDiff,reduceCtorEq,b8,b5,b0,b1,uy]
  ·rw[decide_eq_false hk,Bool.false_and]at om
   have uy:jf es ins i (d+1)=jf es ins i d:=by rw[jf,if_neg (by rw[om];decide)]
   (try((repeat(revert hN;revert N;apply Pn.out));refine wk (tw @b8 (tw @b5 (tw @b0 (tw @b1 @hk)))) ?_;(repeat(refine Pn.mk ?_;intro N hN))))
   refine fE ?_ ?_ (by(try dsimp only);exact⟨by omega,fun x hx=>bF x hx⟩)
   all_goals simp only[go_sem, ↓reduceIte,Nat.reduceEqDiff,Nat.reduceAdd,Nat.reduceSub,Nat.reduceLeDiff,reduceCtorEq,b8,b5,b0,b1,uy]
 ·have ux:d=4:=by omega
  subst ux
  (try((repeat(revert hN;revert N;apply Pn.out));refine wk (tw @b8 (tw @b5 (tw @b0 (tw @b1 @hd)))) ?_;(repeat(refine Pn.mk ?_;intro N hN))))
  exact eV (.inl rfl) (vs:=[.int .i64 (jf es ins i 4)]) (sd (tw @b8 (tw @b5 (tw @b0 @b1)))) rfl
theorem Ij {σ:au} {X u:Id} {s:aw} {es:List ab} {e1 e3:AV} {b b2:Bool} (hl:es.length<=1048576) (ins:List Int) (hi:ins.length=es.length) (hX:σ.get X=some ⟨b,8,(mj s es e1 (.own u 0 es.length) e3).rows⟩) (hu:σ.get u=some ⟨b2,1,ins.map az⟩) (PR:X.bE<σ.next) (WA:u.bE<σ.next) (Kl:∀j,j<es.length->vk (aA es j).aL=true) (i:Nat) (fe:i<es.length):fX (Call Tryz.prog) 93 [.ptr X 0 0,.int .i64 (i:Int)] σ (fun r=>r=.int .i64 (jf es ins i 4)):=by
 unfold fX PC
 exact Or.inl (aE _ _ _ _ _ (fun r σ' hr=>⟨_,by rw[hr];exact aJ _ _ _ _,rfl⟩) (Ii (σ:=⟨V.ro σ.get,σ.next⟩) (s:=s) (e1:=e1) (e3:=e3) (u:=u) (b:=false) (b2:=false) hl ins hi (by simp[V.ro,hX]) (by simp[V.ro,hu]) PR WA Kl i fe))
theorem BP (s:aw) (es:List ab) (hn:fm s.aI) (hm:mK s) (hl:es.length<=1048576):qJ Tryz.prog 55 [.agg (ar s),.sl (es.map aa)] az 1 (rM s es).1 (rM s es).2:=by
 intro n0
 have hc:=fun σ=>K9 s es hn hm hl σ
 by_cases h0:(k7 s es).2=0
 ·have hr:rM s es=(mi es (jx s es es.length) es.length,0):=by rw[rM,if_pos h0]
  rw[hr]
  obtain⟨hP,h5,dx⟩:=AX h0
  refine eJ eF rfl fun iQ=>?_
  clear iQ
  rw[ar]at hc ⊢
  (try((repeat(revert hN;revert N;apply Pn.out));refine wk @Nat.zero_add ?_;(repeat(refine Pn.mk ?_;intro N hN))))
  refine .inr (aE _ _ _ _ _ (fun r σ1 hq=>?_) (hc _))
  obtain⟨g1,x1⟩:=σ1
  obtain⟨hq,hK⟩:=hq
  (try dsimp only at hq hK)
  have rm:=hK.1
  (try dsimp only at rm)
  clear hc hK
  refine hN _ _ ?_
  clear hN N
  rcases hq with⟨gM,rfl⟩|⟨JX,X,ve,vi,vs,rfl,hX,hX1,J0,dC⟩
  ·exact absurd h0 gM
  (try dsimp only at hX1)
  (try((repeat(revert hN;revert N;apply Pn.out));refine wk @Nat.zero_add ?_;(repeat(refine Pn.mk ?_;intro N hN))))
  refine aZ (fun n env st=>∃i:Nat,n=(es.length)-i/\i<=(es.length)/\env 21=.int .i64 (i:Int)/\(x1<=st.next/\(∀x:Id,x.bE<x1->st.get x=g1 x)/\((i=0/\env 8=.bD)∨∃o:Id,0<i/\env 8=.own o 0 i/\st.get o=some ⟨true,1,(mi es (jx s es es.length) i).map az⟩/\x1<=o.bE/\o.bE<st.next))) (es.length) ⟨0,by omega,by omega,sl @Nat.zero_add,by(try dsimp only);exact⟨by omega,fun x hx=>rfl,.inl ⟨rfl,sd @Nat.zero_add⟩⟩⟩ ?_
  rintro n_a env_a st_a ⟨i,rfl,ale,a21,jO⟩ dy
  have a1:=dy 1 (by kernel_rfl);have a6:=dy 6 (by kernel_rfl);have Ef:=dy 19 (by kernel_rfl);have a20:=dy 20 (by kernel_rfl)
  simp only[go_sem, ↓reduceIte,Nat.reduceEqDiff,Nat.reduceAdd,Nat.reduceSub,Nat.reduceLeDiff,reduceCtorEq]at a1 a6 Ef a20
  clear dy
  obtain⟨an,aF,aC⟩:=jO
  by_cases hi:(i:Int)<(es.length:Int)
  ·have cw:∀{e:Env} {gg:Rows} {nx:Nat},(e 21=.int .i64 (IntKind.i64.wrap ((i:Int)+1)))->(x1<=nx/\(∀x:Id,x.bE<x1->gg x=g1 x)/\(((i+1)=0/\e 8=.bD)∨∃o:Id,0<(i+1)/\e 8=.own o 0 (i+1)/\gg o=some ⟨true,1,(mi es (jx s es es.length) (i+1)).map az⟩/\x1<=o.bE/\o.bE<nx))->∃m0,m0<(es.length)-i/\∃i:Nat,m0=(es.length)-i/\i<=(es.length)/\e 21=.int .i64 (i:Int)/\(x1<=nx/\(∀x:Id,x.bE<x1->gg x=g1 x)/\((i=0/\e 8=.bD)∨∃o:Id,0<i/\e 8=.own o 0 i/\gg o=some ⟨true,1,(mi es (jx s es es.length) i).map az⟩/\x1<=o.bE/\o.bE<nx)):=fun x1 x2=>⟨_,by omega,i+1,rfl,by omega,(by rw[x1,aD (by omega)]),x2⟩
   have fe:i<es.length:=by omega
   rcases dC with⟨q1,_⟩|⟨u,q1,rfl,q3,q4,q5⟩
   ·omega
   (try((repeat(revert hN;revert N;apply Pn.out));refine wk (tw @a21 (tw @a1 (tw @a6 (tw @Ef (tw @a20 @hi))))) ?_;(repeat(refine Pn.mk ?_;intro N hN))))
   refine .inl ⟨_,Ij (σ:=⟨st_a.get,st_a.next+1+1+1⟩) (b:=true) (b2:=true) (s:=s) (e1:=ve) (e3:=vs) (u:=u) hl (jx s es es.length) (kz _ _ _) ((aF X J0).trans hX) ((aF u q5).trans q3) (by(try dsimp only);omega) (by(try dsimp only);omega) (ON dx) i fe,?_⟩
   refine hN _ _ ?_
   clear hN N
   have Kv:=zL es (jx s es es.length) i
   rcases aC with⟨uZ,a8⟩|⟨o,uZ,a8,ao,ao1,ao2⟩
   ·(try((repeat(revert hN;revert N;apply Pn.out));refine wk (tw @a21 (tw @a1 (tw @a6 (tw @Ef (tw @a20 @a8))))) ?_;(repeat(refine Pn.mk ?_;intro N hN))))
    exact cw (sd (tw @a21 (tw @a1 (tw @a6 (tw @Ef @a20))))) (by(try dsimp only);exact⟨by omega,fun x hx=>by(have h1:=dr (i:=x) (n:=st_a.next) (by omega));have h2:=aF x hx;simp only[go_sem, ↓reduceIte,Nat.reduceEqDiff,Nat.reduceAdd,Nat.reduceSub,Nat.reduceLeDiff,reduceCtorEq,h1,h2],.inr ⟨⟨55008005,st_a.next+1+1⟩,by omega,by rw[uZ];simp only[go_sem, ↓reduceIte,Nat.reduceEqDiff,Nat.reduceAdd,Nat.reduceSub,Nat.reduceLeDiff,reduceCtorEq]<;>rfl,by rw[Kv,uZ];simp only[go_sem, ↓reduceIte,Nat.reduceEqDiff,Nat.reduceAdd,Nat.reduceSub,Nat.reduceLeDiff,reduceCtorEq]<;>rfl,by(try dsimp only);omega,by(try dsimp only);omega⟩⟩)
   ·have vo:=dr ao2
    have yJ:((mi es (jx s es es.length) i).map az).length=i:=by rw[List.length_map,nf]
    have On:i<=16777215:=by omega
    generalize (mi es (jx s es es.length) i).map az=OL at ao yJ Kv
    (try((repeat(revert hN;revert N;apply Pn.out));refine wk (tw @a21 (tw @a1 (tw @a6 (tw @Ef (tw @a20 (tw @a8 (tw @ao (tw @vo (tw @yJ @On))))))))) ?_;(repeat(refine Pn.mk ?_;intro N hN))))
    exact cw (sd (tw @a21 (tw @a1 (tw @a6 (tw @Ef @a20))))) (by(try dsimp only);exact⟨by omega,fun x hx=>by(have h1:=dr (i:=x) (n:=st_a.next) (by omega));have h2:=aF x hx;have h3:=cm (a:=x) (b:=o) (by omega);simp only[go_sem, ↓reduceIte,Nat.reduceEqDiff,Nat.reduceAdd,Nat.reduceSub,Nat.reduceLeDiff,reduceCtorEq,h1,h2,h3],.inr ⟨⟨55008005,st_a.next+1+1⟩,by omega,sl @Nat.zero_add,by rw[Kv];simp only[go_sem, ↓reduceIte,Nat.reduceEqDiff,Nat.reduceAdd,Nat.reduceSub,Nat.reduceLeDiff,reduceCtorEq]<;>rfl,by(try dsimp only);omega,by(try dsimp only);omega⟩⟩)
  ·have kF:i=es.length:=by omega
   subst kF
   (try((repeat(revert hN;revert N;apply Pn.out));refine wk (tw @a21 (tw @a1 (tw @a6 (tw @Ef (tw @a20 @hi))))) ?_;(repeat(refine Pn.mk ?_;intro N hN))))
   rcases aC with⟨uZ,a8⟩|⟨o,uZ,a8,ao,ao1,ao2⟩
   ·exact eV (.inl rfl) (vs:=[.bD,.int .i64 0]) (sd @a8) ⟨.bD,[],rfl,.inl ⟨by rw[uZ];rfl,rfl,rfl⟩,⟨List.nodup_nil,fun i hi=>by cases hi⟩⟩
   ·exact eV (.inl rfl) (vs:=[.own o 0 es.length,.int .i64 0]) (sd @a8) ⟨.own o 0 es.length,[o],rfl,.inr ⟨o,by rw[nf],ao,rfl,by rw[nf];exact uZ⟩,⟨List.nodup_cons.2 ⟨by simp,List.nodup_nil⟩,fun i hi=>by rw[List.mem_singleton.1 hi];(try dsimp only);omega⟩⟩
 ·have hr:rM s es=([],(k7 s es).2):=by rw[rM,if_neg h0]
  rw[hr]
  have hd:decide ((k7 s es).2=0)=false:=decide_eq_false h0
  refine eJ eF rfl fun iQ=>?_
  clear iQ
  rw[ar]at hc ⊢
  (try((repeat(revert hN;revert N;apply Pn.out));refine wk @Nat.zero_add ?_;(repeat(refine Pn.mk ?_;intro N hN))))
  refine .inr (aE _ _ _ _ _ (fun r σ1 hq=>?_) (hc _))
  obtain⟨g1,x1⟩:=σ1
  obtain⟨hq,hK⟩:=hq
  (try dsimp only at hq hK)
  clear hc hK
  refine hN _ _ ?_
  clear hN N
  rcases hq with⟨gM,rfl⟩|⟨JX,_⟩
  ·(try((repeat(revert hN;revert N;apply Pn.out));refine wk @hd ?_;(repeat(refine Pn.mk ?_;intro N hN))))
   exact eV (.inl rfl) (vs:=[.bD,.int .i64 (k7 s es).2]) (sd @Nat.zero_add) ⟨.bD,[],rfl,.inl ⟨rfl,rfl,rfl⟩,⟨List.nodup_nil,fun i hi=>by cases hi⟩⟩
  ·exact absurd JX h0
theorem KH (Eg:aw->List ab->List Int×Int)
  (Ku:∀s a,fm s.aI->mK s->a.length<=1048576->∃w,lf az (Eg s a).1 w/\iM Tryz.prog 54 [.agg (ar s),.sl (a.map aa)] (.gD [w,.int .i64 (Eg s a).2]))
  (Kc:∀s a,fm s.aI->mK s->a.length<=1048576->qJ Tryz.prog 55 [.agg (ar s),.sl (a.map aa)] az 1 (Eg s a).1 (Eg s a).2)
  (hlen:∀s a,mK s->a.length<=1048576->(Eg s a).1.length<=1152921504606846976)
  (s:aw) (a:List ab) (hn:fm s.aI):aq Tryz.prog 13 [.agg (ar s),.sl (a.map aa)] (.bool true):=by
 refine aq.body eF rfl fun hl n0=>?_
 clear hl
 have h1:=x7 s 1048576 (by omega) (by omega) hn
 by_cases hf:(qx s:Int)<=1048576
 ·rw[iu hf]at h1
  have jX:¬(1048576:Int)-(qx s:Int)<0:=by omega
  have h2:=Dz a (1048576-qx s) (by omega) (by omega)
  by_cases hg:(a.length:Int)<=1048576-qx s
  ·rw[iu hg]at h2
   have BF:¬(1048576:Int)-(qx s:Int)-(a.length:Int)<0:=by omega
   have sm:=zX (s:=s) (by omega)
   have am:a.length<=1048576:=by omega
   have t1:=yd s sm
   have t2:=DG a am
   obtain⟨w,hw,r1⟩:=Ku s a hn sm am
   have r2:=Kc s a hn sm am
   have q1:=wW s
   have q2:=Ch a a
   rw[decide_eq_true rfl]at q2
   have hL:=hlen s a sm am
   obtain⟨L,Sm⟩:∃L,(Eg s a).1=L:=⟨_,rfl⟩
   obtain⟨c,hc⟩:∃c,(Eg s a).2=c:=⟨_,rfl⟩
   rw[hc]at r1
   rw[Sm,hc]at r2
   rw[Sm]at hw hL
   have Gx:=fun σ=>yc s sm σ
   have RN:=fun σ=>DF a am σ
   rw[ar]at Gx
   have e2:decide (c=c)=true:=by simp
   rw[ar]at h1
   (repeat(first|((repeat(revert hN;revert N;apply Pn.out));refine wk (tw @ar.eq_1 (tw @jX @BF)) ?_;(repeat(refine Pn.mk ?_;intro N hN)))|((try apply Or.inl);refine⟨_,aq.x (h1) (sd (tw @ar.eq_1 (tw @jX @BF))),?_⟩;refine hN _ _ ?_;clear hN N)|((try apply Or.inl);refine⟨_,aq.x (h2) (sd (tw @ar.eq_1 (tw @jX @BF))),?_⟩;refine hN _ _ ?_;clear hN N)))
   refine .inl ⟨_,iM.x (by rw[ar]at t1;exact t1) _,?_⟩
   refine hN _ _ ?_
   clear hN N
   (try((repeat(revert hN;revert N;apply Pn.out));refine wk @Nat.zero_add ?_;(repeat(refine Pn.mk ?_;intro N hN))))
   refine .inl ⟨_,iM.x t2 _,?_⟩
   refine hN _ _ ?_
   clear hN N
   (try((repeat(revert hN;revert N;apply Pn.out));refine wk @Nat.zero_add ?_;(repeat(refine Pn.mk ?_;intro N hN))))
   refine .inl ⟨_,iM.x (by rw[ar]at r1;exact r1) _,?_⟩
   refine hN _ _ ?_
   clear hN N
   (try((repeat(revert hN;revert N;apply Pn.out));refine wk @Nat.zero_add ?_;(repeat(refine Pn.mk ?_;intro N hN))))
   refine .inr (aE _ _ _ _ _ (fun r σ1 hq=>?_) (Gx _))
   obtain⟨iX,hX,Hx,MP⟩:=hq
   obtain⟨g1,x1⟩:=σ1
   (try dsimp only at hX Hx MP)
   obtain⟨A,B,C,j1,j2,j3,rfl,hA,hB,hC,rfl⟩:=hX.ex
   obtain⟨oA,rfl⟩:=hA.jn
   obtain⟨oB,rfl⟩:=hB.jn
   obtain⟨oC,rfl⟩:=hC.jn
   clear hA hB hC
   have nX:=MP.1
   have bX:=Hx.2
   (try dsimp only at nX bX)
   have kA:=MP.2 ⟨13000000,n0⟩ (by(try dsimp only);omega)
   simp only[go_sem, ↓reduceIte,Nat.reduceEqDiff,Nat.reduceAdd,Nat.reduceSub,Nat.reduceLeDiff,reduceCtorEq]at kA
   refine hN _ _ ?_
   clear hN N
   (try((repeat(revert hN;revert N;apply Pn.out));refine wk @kA ?_;(repeat(refine Pn.mk ?_;intro N hN))))
   refine .inr (aE _ _ _ _ _ (fun r σ2 hq=>?_) (RN _))
   obtain⟨iY,hD,MO,Hy⟩:=hq
   obtain⟨g2,x2⟩:=σ2
   (try dsimp only at hD MO Hy)
   obtain⟨oD,rfl⟩:=hD.jn
   have hY:=hD
   have nY:=Hy.1
   have bY:=MO.2
   (try dsimp only at nY bY)
   have lA:=Hy.2 ⟨13000000,n0⟩ (by(try dsimp only);omega)
   have lX:=Hy.2 ⟨13009002,x1⟩ (by(try dsimp only);omega)
   have vA:=dr (i:=⟨13000000,n0⟩) (n:=x1) (by(try dsimp only);omega)
   simp only[go_sem, ↓reduceIte,Nat.reduceEqDiff,Nat.reduceAdd,Nat.reduceSub,Nat.reduceLeDiff,reduceCtorEq,kA,vA]at lA lX
   have J0:=hX.frame (g':=g2) fun i hi=>by
    have h3:=bX i hi
    have h4:=Hy.2 i (by(try dsimp only);omega)
    have h5:=dr (i:=i) (n:=x1) (by omega)
    simp only[go_sem, ↓reduceIte,Nat.reduceEqDiff,Nat.reduceAdd,Nat.reduceSub,Nat.reduceLeDiff,reduceCtorEq,h5]at h4
    exact h4
   clear hX MP Hy hD kA
   refine hN _ _ ?_
   clear hN N
   have uX:=dr (i:=⟨13009002,x1⟩) (n:=x2) (by(try dsimp only);omega)
   (try((repeat(revert hN;revert N;apply Pn.out));refine wk (tw @lA (tw @lX @uX)) ?_;(repeat(refine Pn.mk ?_;intro N hN))))
   refine .inr (aE _ _ _ _ _ (fun r σ3 hq=>?_) (BN mixed (fun _=>rfl) r2 (zY (J0.frame fun i hi=>by
    have h5:=dr (i:=i) (n:=x2) (by have:=bX i hi;omega)
    simp only[go_sem, ↓reduceIte,Nat.reduceEqDiff,Nat.reduceAdd,Nat.reduceSub,Nat.reduceLeDiff,reduceCtorEq,h5]) (hY.frame mO fun i hi=>by
    have h5:=dr (i:=i) (n:=x2) (by have:=bY i hi;omega)
    simp only[go_sem, ↓reduceIte,Nat.reduceEqDiff,Nat.reduceAdd,Nat.reduceSub,Nat.reduceLeDiff,reduceCtorEq,h5]))))
   obtain⟨v,iZ,rfl,hZ,PK,Hz⟩:=hq
   obtain⟨g3,x3⟩:=σ3
   (try dsimp only at hZ PK Hz)
   have nZ:=Hz.1
   have bZ:=PK.2
   (try dsimp only at nZ bZ)
   have wA:=dr (i:=⟨13000000,n0⟩) (n:=x2) (by(try dsimp only);omega)
   have mA:=Hz.2 ⟨13000000,n0⟩ (by(try dsimp only);omega)
   have mX:=Hz.2 ⟨13009002,x1⟩ (by(try dsimp only);omega)
   simp only[go_sem, ↓reduceIte,Nat.reduceEqDiff,Nat.reduceAdd,Nat.reduceSub,Nat.reduceLeDiff,reduceCtorEq,lA,lX,wA,uX]at mA mX
   have Se:∀i:Id,i.bE<x2->g3 i=g2 i:=fun i hi=>by
    have h4:=Hz.2 i (by(try dsimp only);omega)
    have h5:=dr (i:=i) (n:=x2) hi
    simp only[go_sem, ↓reduceIte,Nat.reduceEqDiff,Nat.reduceAdd,Nat.reduceSub,Nat.reduceLeDiff,reduceCtorEq,h5]at h4
    exact h4
   have PQ:=J0.frame (g':=g3) fun i hi=>Se i (by have:=bX i hi;omega)
   have PS:=hY.frame mO (g':=g3) fun i hi=>Se i (by have:=bY i hi;omega)
   clear J0 hY Hz lA lX
   obtain⟨wv,mW,ET⟩:=hZ.fz fun x g=>by simp[az,ae,aj,aJ]
   refine hN _ _ ?_
   clear hN N
   (try((repeat(revert hN;revert N;apply Pn.out));refine wk (tw @mA @mX) ?_;(repeat(refine Pn.mk ?_;intro N hN))))
   refine .inl ⟨_,aq.x (tA ET hw) (kO mW (hw.fz _)),?_⟩
   refine hN _ _ ?_
   clear hN N
   (try((repeat(revert hN;revert N;apply Pn.out));refine wk (tw @mA (tw @mX @e2)) ?_;(repeat(refine Pn.mk ?_;intro N hN))))
   refine⟨_,iM.x (by rw[ar]at t1;exact t1) _,?_⟩
   refine hN _ _ ?_
   clear hN N
   (try((repeat(revert hN;revert N;apply Pn.out));refine wk (tw @mA (tw @mX @e2)) ?_;(repeat(refine Pn.mk ?_;intro N hN))))
   refine⟨_,aq.x (by rw[ar]at q1;exact q1) (by rw[<-ar];exact GX PQ (vH _ _)),?_⟩
   refine hN _ _ ?_
   clear hN N
   (try((repeat(revert hN;revert N;apply Pn.out));refine wk (tw @mA (tw @mX @e2)) ?_;(repeat(refine Pn.mk ?_;intro N hN))))
   refine .inl ⟨_,iM.x t2 _,?_⟩
   refine hN _ _ ?_
   clear hN N
   (try((repeat(revert hN;revert N;apply Pn.out));refine wk (tw @mA (tw @mX @e2)) ?_;(repeat(refine Pn.mk ?_;intro N hN))))
   refine .inl ⟨_,aq.x q2 (GM PS (cr _ _ _)),?_⟩
   refine hN _ _ ?_
   clear hN N
   (try((repeat(revert hN;revert N;apply Pn.out));refine wk (tw @mA (tw @mX @e2)) ?_;(repeat(refine Pn.mk ?_;intro N hN))))
   have Ot:=GJ s
   have Wm:=Hx.not (x:=⟨13000000,n0⟩) (by(try dsimp only);omega)
   refine .inr (aE _ _ _ _ _ (fun r σ4 hq=>?_) (zA _ s _ 1 (by omega) sm.s.t (by omega) _ (fun i hi=>by have:=bX i hi;(try dsimp only);omega) Hx.1 PQ))
   obtain⟨rfl,hM⟩:=hq
   obtain⟨g4,x4⟩:=σ4
   (try dsimp only at hM)
   have nM:=hM.1
   (try dsimp only at nM)
   have pA:=(hM.2 ⟨13000000,n0⟩ (by(try dsimp only);omega) Wm).trans mA
   have Ss:=PS.frame mO (g':=g4) fun i hi=>hM.2 i (by have:=bY i hi;(try dsimp only);omega) (Hx.not (by have:=bY i hi;omega))
   have Su:=hZ.frame (g':=g4) fun i hi=>hM.2 i (by have:=bZ i hi;(try dsimp only);omega) (Hx.not (by have:=bZ i hi;omega))
   clear hM PQ PS hZ mA mX mW
   refine hN _ _ ?_
   clear hN N
   (try((repeat(revert hN;revert N;apply Pn.out));refine wk @pA ?_;(repeat(refine Pn.mk ?_;intro N hN))))
   refine .inr (aE _ _ _ _ _ (fun r σ5 hq=>?_) (xw _ a _ (1+yR s) (by omega) (by omega) _ (fun i hi=>by have:=bY i hi;(try dsimp only);omega) Ss))
   obtain⟨rfl,hM⟩:=hq
   obtain⟨g5,x5⟩:=σ5
   (try dsimp only at hM)
   have nN:=hM.1
   (try dsimp only at nN)
   have rA:=(hM.2 ⟨13000000,n0⟩ (by(try dsimp only);omega) (MO.not (by(try dsimp only);omega))).trans pA
   have PT:=Su.frame (g':=g5) fun i hi=>hM.2 i (by have:=bZ i hi;(try dsimp only);omega) (MO.not (by have:=bZ i hi;omega))
   clear hM Ss Su pA
   obtain⟨wv5,mW,ET⟩:=PT.fz fun x g=>by simp[az,ae,aj,aJ]
   have e3:decide (1+(yR s:Int)+3*(a.length:Int)<0)=false:=decide_eq_false (by omega)
   refine hN _ _ ?_
   clear hN N
   (try((repeat(revert hN;revert N;apply Pn.out));refine wk (tw @rA @e3) ?_;(repeat(refine Pn.mk ?_;intro N hN))))
   refine .inl ⟨_,aq.x (tA ET hw) (kO mW (hw.fz _)),?_⟩
   refine hN _ _ ?_
   clear hN N
   (try((repeat(revert hN;revert N;apply Pn.out));refine wk (tw @rA (tw @e2 @e3)) ?_;(repeat(refine Pn.mk ?_;intro N hN))))
   refine .inr (aE _ _ _ _ _ (fun r σ6 hq=>?_) (C3 1 (by omega) (by omega) _ (fun i hi=>by have:=bZ i hi;(try dsimp only);omega) PT))
   obtain⟨rfl,hM,Sv⟩:=hq
   obtain⟨g6,x6⟩:=σ6
   (try dsimp only at hM Sv)
   have sA:=(hM.2 ⟨13000000,n0⟩ (by(try dsimp only);omega) (PK.not (by(try dsimp only);omega))).trans rA
   clear hM PT rA mW ET
   obtain⟨wv6,mW,ET⟩:=Sv.fz fun x g=>by simp[az,ae,aj,aJ]
   have e4:decide (1+(L.length:Int)<0)=false:=decide_eq_false (by omega)
   have e5:decide (1+(L.length:Int)=1+(L.length:Int))=true:=decide_eq_true rfl
   refine hN _ _ ?_
   clear hN N
   (try((repeat(revert hN;revert N;apply Pn.out));refine wk @sA ?_;(repeat(refine Pn.mk ?_;intro N hN))))
   refine .inl ⟨_,aq.x (se 1 L.length (by omega) (by omega) ET) (kO mW (aJ _ _ _ _)),?_⟩
   refine hN _ _ ?_
   clear hN N
   (try((repeat(revert hN;revert N;apply Pn.out));refine wk (tw @sA (tw @e4 @e5)) ?_;(repeat(refine Pn.mk ?_;intro N hN))))
   refine .inl ⟨_,iM.x (by rw[ar]at t1;exact t1) _,?_⟩
   refine hN _ _ ?_
   clear hN N
   (try((repeat(revert hN;revert N;apply Pn.out));refine wk (tw @sA (tw @e4 @e5)) ?_;(repeat(refine Pn.mk ?_;intro N hN))))
   refine .inl ⟨_,iM.x t2 _,?_⟩
   refine hN _ _ ?_
   clear hN N
   (try((repeat(revert hN;revert N;apply Pn.out));refine wk (tw @sA (tw @e4 @e5)) ?_;(repeat(refine Pn.mk ?_;intro N hN))))
   refine .inl ⟨_,aq.x (by have h:=r2.s Lf;rw[ar]at h;exact h) (kO (by rw[<-ar];exact vH _ _) (cr _ _ _)),?_⟩
   refine hN _ _ ?_
   clear hN N
   (try((repeat(revert hN;revert N;apply Pn.out));refine wk @e2 ?_;(repeat(refine Pn.mk ?_;intro N hN))))
   refine .inl ⟨_,aq.x (tA sI hw) (kO (sI.fz _) (hw.fz _)),?_⟩
   refine hN _ _ ?_
   clear hN N
   (try((repeat(revert hN;revert N;apply Pn.out));refine wk @e2 ?_;(repeat(refine Pn.mk ?_;intro N hN))))
   refine .inl ⟨_,aq.x (se 1 L.length (by omega) (by omega) ET) (kO mW (aJ _ _ _ _)),?_⟩
   refine hN _ _ ?_
   clear hN N
   (try((repeat(revert hN;revert N;apply Pn.out));refine wk (tw @e4 @e5) ?_;(repeat(refine Pn.mk ?_;intro N hN))))
   exact bc (b:=true) (.inl rfl) (sd @Nat.zero_add) rfl
  ·rw[iD hg]at h2
   rw[ar]at h1
   (repeat(first|((repeat(revert hN;revert N;apply Pn.out));refine wk (tw @ar.eq_1 @jX) ?_;(repeat(refine Pn.mk ?_;intro N hN)))|((try apply Or.inl);refine⟨_,aq.x (h1) (sd (tw @ar.eq_1 @jX)),?_⟩;refine hN _ _ ?_;clear hN N)|((try apply Or.inl);refine⟨_,aq.x (h2) (sd (tw @ar.eq_1 @jX)),?_⟩;refine hN _ _ ?_;clear hN N)))
   exact bc (b:=true) (.inl rfl) (sd @Nat.zero_add) rfl
 ·rw[iD hf]at h1
  rw[ar]at h1
  (repeat(first|((repeat(revert hN;revert N;apply Pn.out));refine wk @ar.eq_1 ?_;(repeat(refine Pn.mk ?_;intro N hN)))|((try apply Or.inl);refine⟨_,aq.x (h1) (sd @ar.eq_1),?_⟩;refine hN _ _ ?_;clear hN N)))
  exact bc (b:=true) (.inl rfl) (sd @Nat.zero_add) rfl
end Go.Proofs.YtgoelphibofcmaaGreat.V

namespace Go.Proofs.YtgoelphibofcmaaGreat
open Go.ChangeShapes Go.WideShapes Go.ChangeAt Go.RowKit Go.Deep
section
variable {H:Type} {enc:TypeId×Value->H} {P:Program} {w:World}
theorem nC.Tt {α:Type} {rep:World->List Nat->List Value->α->Prop} {sz:Nat} {w:World} {b o len cap:Nat} (pa:Nat->List Value) (fs:Nat->List Nat) (ds:Nat->α) (hc:len<=cap) (hm:cap<=maxLen)
  (hl:∀i,i<len->(pa i).length=sz) (hr:∀i,i<len->rep w (fs i) (pa i) (ds i)) (xf:∀i,i<len->∀j u,(pa i)[j]? =some u->w.cell? ⟨b,o+(i*sz+j),none⟩=some u):
  nC rep sz w ([b]++((List.range len).map fs).flatten) (.slice (some ⟨b,o,none⟩) len cap) ((List.range len).map ds):=by
 refine⟨(List.range len).map pa,(List.range len).map fs,[b],rfl,⟨some ⟨b,o,none⟩,cap,by simp,by simpa using hc,hm,.inr ⟨b,o,rfl,rfl,fun j u hj=>?_⟩⟩,by simp,by simp,fun i cs f d h1 h2 h3=>?_⟩
 ·have hlen:∀cs∈(List.range len).map pa,cs.length=sz:=fun cs dC=>by
   obtain⟨i,hi,rfl⟩:=List.mem_map.1 dC
   exact hl i (List.mem_range.1 hi)
  have iA:=(List.getElem?_eq_some_iff.1 hj).1
  have HC:((List.range len).map pa).flatten.length=len*sz:=by
   rw[List.length_flatten,List.map_map]
   have:∀(l:List Nat),(∀i∈l,i<len)->(l.map (List.length∘pa)).sum=l.length*sz:=by
    intro l
    induction l with
    |nil=>intro _;simp
    |cons a l ih=>intro h;rw[List.map_cons,List.sum_cons,ih fun i hi=>h i (List.mem_cons_of_mem _ hi)];simp only[Function.comp,hl a (h a (by simp)),List.length_cons,Nat.add_mul];omega
   rw[this _ fun i hi=>List.mem_range.1 hi,List.length_range]
  rw[HC]at iA
  have Oz:0<sz:=by
   rcases Nat.eq_zero_or_pos sz with h|h
   ·subst h;simp at iA
   ·exact h
  have hi:j / sz<len:=(Nat.div_lt_iff_lt_mul Oz).2 iA
  have uy:j % sz<sz:=Nat.mod_lt _ Oz
  have Kd:j=(j / sz)*sz+j % sz:=by rw[Nat.mul_comm];exact(Nat.div_add_mod j sz).symm
  rw[Kd,uq hlen (i:=j / sz) (cs:=pa (j / sz)) (by simp[hi]) uy]at hj
  rw[Kd]
  have:=xf (j / sz) hi (j % sz) u hj
  rw[<-Kd]at this ⊢
  exact this
 ·have hi:i<len:=by
   have:=(List.getElem?_eq_some_iff.1 h1).1
   simpa using this
  simp[hi]at h1 h2 h3
  subst h1 h2 h3
  exact⟨hr i hi,hl i hi⟩
theorem kG (b o k:Nat):(⟨b,o,none⟩:Addr).add k=⟨b,o+k,none⟩:=by
 unfold Addr.add;split
 ·rename_i h;subst h;rfl
 ·rfl
theorem nr {α:Type} {rep:World->List Nat->List Value->α->Prop} {Q:α->Prop} {t e:TypeId} {sz fuel:Nat} {cs:List Value} {x:DataW H×List MemPlace} (ht:P.underlying t=some (.slice e)) (hC:P.cellsOf e=sz) (Oz:0<sz)
  (h:DataW.trod enc P w 0 (fun _=>true) true fuel t cs=some x) (hel:∀n qp y,qp.length=sz->DataW.trod enc P w 0 (fun _=>true) true n e qp=some y->∃f d,fo f 0 w.heap.size/\rep w f qp d/\Q d):
  ∃A n c f xs,cs=[.slice A n c]/\fo f 0 w.heap.size/\nC rep sz w f (.slice A n c) xs/\∀d∈xs,Q d:=by
 rcases open_slice ht h with⟨rfl,_⟩|⟨a,len,cap,m,n,D,Pl,rfl,_,hl,hm,P8,_,hi⟩
 ·exact⟨none,0,0,[],[],rfl,fo.nil _ _,nC.nil _ _ _,fun d h=>by cases h⟩
 rw[hC]at hi
 simp only[if_true]at P8
 by_cases h0:len=0
 ·subst h0
  exact⟨some a,0,cap,[],[],rfl,fo.nil _ _,⟨[],[],[],rfl,⟨some a,cap,rfl,Nat.zero_le _,hm,.inl ⟨rfl,rfl⟩⟩,rfl,rfl,fun i cs f d hc=>by simp at hc⟩,fun d h=>by cases h⟩
 obtain⟨b,o,sp⟩:=a
 have cell0:∃v,w.cell? ⟨b,o,sp⟩=some v:=by
  obtain⟨qp,hc,_⟩:=hi 0 (by omega)
  obtain⟨_,nG,xf⟩:=World.cells?_some hc
  refine⟨qp[0]'(by omega),?_⟩
  have:=xf 0 Oz
  rw[List.getElem?_eq_getElem (by omega)]at this
  simpa[Addr.add]using this
 obtain⟨v0,tf⟩:=cell0
 have hb:b<w.heap.size:=World.block_lt_of_cell? w _ tf
 have Qj:sp=none:=by
  unfold World.cell? at tf
  split at tf
  ·split at tf
   ·cases tf
   ·rename_i h;simpa using h
  ·cases tf
 subst Qj
 have key:∀i,i<len->∃qp f d,qp.length=sz/\fo f 0 w.heap.size/\rep w f qp d/\Q d/\∀j u,qp[j]? =some u->w.cell? ⟨b,o+(i*sz+j),none⟩=some u:=fun i kF=>by
  obtain⟨qp,hc,htr⟩:=hi i (by omega)
  obtain⟨_,nG,xf⟩:=World.cells?_some hc
  obtain⟨f,d,h1,h2,h3⟩:=hel n qp _ nG htr
  refine⟨qp,f,d,nG,h1,h2,h3,fun j u hj=>?_⟩
  have iA:=(List.getElem?_eq_some_iff.1 hj).1
  have:=xf j (by omega)
  rw[hj]at this
  rw[<-this,Go.Deep.add_add,kG]
 have:Nonempty α:=by
  obtain⟨_,_,d,_⟩:=key 0 (by omega)
  exact⟨d⟩
 let cf:Nat->List Value:=fun i=>if hi:i<len then(key i hi).choose else[]
 let ff:Nat->List Nat:=fun i=>if hi:i<len then(key i hi).choose_spec.choose else[]
 let df:Nat->α:=fun i=>if hi:i<len then(key i hi).choose_spec.choose_spec.choose else Classical.choice this
 have dx:∀i,i<len->(cf i).length=sz/\fo (ff i) 0 w.heap.size/\rep w (ff i) (cf i) (df i)/\Q (df i)/\∀j u,(cf i)[j]? =some u->w.cell? ⟨b,o+(i*sz+j),none⟩=some u:=fun i hi=>by
  have:=(key i hi).choose_spec.choose_spec.choose_spec
  simp only[cf,ff,df,dif_pos hi]
  exact this
 refine⟨some ⟨b,o,none⟩,len,cap,_,(List.range len).map df,rfl,?_,nC.Tt cf ff df hl hm (fun i hi=>(dx i hi).1) (fun i hi=>(dx i hi).2.2.1) (fun i hi=>(dx i hi).2.2.2.2),fun d hd=>?_⟩
 ·intro x hx
  rcases List.mem_append.1 hx with hx|hx
  ·simp at hx;subst hx;exact⟨Nat.zero_le _,hb⟩
  ·obtain⟨l,yJ,RL⟩:=List.mem_flatten.1 hx
   obtain⟨i,hi,rfl⟩:=List.mem_map.1 yJ
   exact(dx i (List.mem_range.1 hi)).2.1 x RL
 ·obtain⟨i,hi,rfl⟩:=List.mem_map.1 hd
  exact(dx i (List.mem_range.1 hi)).2.2.2.1
end
section
variable {H:Type} {enc:TypeId×Value->H} {w:World} {fuel:Nat} {cs:List Value} {x:DataW H×List MemPlace}
abbrev TT (enc:TypeId×Value->H) (w:World) (fuel t:Nat) (cs:List Value) (x:DataW H×List MemPlace):Prop:=DataW.trod enc Tryz.prog w 0 (fun _=>true) true fuel t cs=some x
theorem QA (h:TT enc w fuel 56 cs x):∃A n c f xs,cs=[.slice A n c]/\fo f 0 w.heap.size/\wG w f (.slice A n c) xs:=by
 obtain⟨A,n,c,f,xs,h1,h2,h3,_⟩:=nr (rep:=F5) (Q:=fun _=>True) Tryz.underlying56 (sz:=1) (by kernel_rfl) (by omega) h fun n qp y hl hy=>by
  obtain⟨b,rfl,_⟩:=DataW.trod_int Tryz.underlying2 hy
  exact⟨[],b,fo.nil _ _,⟨rfl,rfl⟩,trivial⟩
 exact⟨A,n,c,f,xs,h1,h2,h3⟩
theorem kU {t:TypeId} {fs:Array Field} (ht:Tryz.prog.underlying t=some (.struct fs)) (h:TT enc w fuel t cs x):cs.length=Tryz.prog.cellsOf t/\∃n,∀(i:Nat) (f:Field),fs[i]? =some f->∃y,TT enc w n f.type ((cs.drop f.offset).take (Tryz.prog.cellsOf f.type)) y:=by
 obtain⟨xs,n,_,_,hl,RL,hf⟩:=DataW.trod_struct ht h
 refine⟨hl,n,fun i f hi=>?_⟩
 have kF:i<xs.length:=by rw[RL];exact(Array.getElem?_eq_some_iff.1 hi).1
 exact⟨xs[i],(hf i f hi).trans (List.getElem?_eq_getElem kF)⟩
theorem To {l:List Value} (h:l.length=2):∃a b,l=[a,b]:=by
 match l,h with
 |[a,b],_=>exact⟨a,b,rfl⟩
theorem Tp {l:List Value} (h:l.length=3):∃a b c,l=[a,b,c]:=by
 match l,h with
 |[a,b,c],_=>exact⟨a,b,c,rfl⟩
theorem WK {l:List Value} (h:l.length=1):∃a,l=[a]:=by
 match l,h with
 |[a],_=>exact⟨a,rfl⟩
theorem WL {l:List Value} (h:l.length=4):∃a b c d,l=[a,b,c,d]:=by
 match l,h with
 |[a,b,c,d],_=>exact⟨a,b,c,d,rfl⟩
theorem Nz (h:TT enc w fuel 22 cs x):∃A n c f xs,cs=[.slice A n c]/\fo f 0 w.heap.size/\pS w f (.slice A n c) xs/\∀d∈xs,d.aO.size<=9223372036854775807:=by
 exact nr (rep:=Jj) (Q:=fun d=>d.aO.size<=9223372036854775807) Tryz.underlying22 (sz:=2) (by kernel_rfl) (by omega) h fun n qp y hl hy=>by
  obtain⟨_,m,hf⟩:=kU Tryz.underlying191 hy
  obtain⟨a,b,rfl⟩:=To hl
  ·skip
   obtain⟨y0,h0⟩:=hf 0 _ rfl
   obtain⟨y1,h1⟩:=hf 1 _ rfl
   rw[show Tryz.prog.cellsOf _=1 from by kernel_rfl]at h0 h1
   obtain⟨p,e0,_,ws⟩:=DataW.trod_string Tryz.underlying9 h0
   obtain⟨q,e1,_⟩:=DataW.trod_int Tryz.underlying2 h1
   simp at e0 e1
   subst e0 e1
   exact⟨[],⟨p,q⟩,fo.nil _ _,⟨rfl,rfl⟩,by simpa[maxLen]using ws⟩
theorem NA (h:TT enc w fuel 23 cs x):∃A n c f xs,cs=[.slice A n c]/\fo f 0 w.heap.size/\pT w f (.slice A n c) xs/\∀d∈xs,d.aO.size<=9223372036854775807:=by
 exact nr (rep:=Jk) (Q:=fun d=>d.aO.size<=9223372036854775807) Tryz.underlying23 (sz:=2) (by kernel_rfl) (by omega) h fun n qp y hl hy=>by
  obtain⟨_,m,hf⟩:=kU Tryz.underlying193 hy
  obtain⟨a,b,rfl⟩:=To hl
  ·skip
   obtain⟨y0,h0⟩:=hf 0 _ rfl
   obtain⟨y1,h1⟩:=hf 1 _ rfl
   rw[show Tryz.prog.cellsOf _=1 from by kernel_rfl]at h0 h1
   obtain⟨p,e0,_,ws⟩:=DataW.trod_string Tryz.underlying9 h0
   obtain⟨A1,n1,c1,f1,TN,e1,k1,s1⟩:=QA h1
   simp at e0 e1
   subst e0 e1
   exact⟨_,⟨p,TN⟩,k1,⟨_,f1,rfl,rfl,s1⟩,by simpa[maxLen]using ws⟩
theorem Ic (h:TT enc w fuel 26 cs x):∃A n c f xs,cs=[.slice A n c]/\fo f 0 w.heap.size/\iy w f (.slice A n c) xs:=by
 obtain⟨A,n,c,f,xs,h1,h2,h3,_⟩:=nr (rep:=wE) (Q:=fun _=>True) Tryz.underlying26 (sz:=3) (by kernel_rfl) (by omega) h fun n qp y hl hy=>by
  obtain⟨_,m,hf⟩:=kU Tryz.underlying143 hy
  obtain⟨a,b,c,rfl⟩:=Tp hl
  ·skip
   obtain⟨y0,h0⟩:=hf 0 _ rfl
   obtain⟨y1,h1⟩:=hf 1 _ rfl
   rw[show Tryz.prog.cellsOf _=2 from by kernel_rfl]at h0
   rw[show Tryz.prog.cellsOf _=1 from by kernel_rfl]at h1
   obtain⟨_,m2,tF⟩:=kU Tryz.underlying66 h0
   obtain⟨z0,g0⟩:=tF 0 _ rfl
   obtain⟨z1,g1⟩:=tF 1 _ rfl
   rw[show Tryz.prog.cellsOf _=1 from by kernel_rfl]at g0 g1
   obtain⟨px,e0,_⟩:=DataW.trod_int Tryz.underlying2 g0
   obtain⟨py,e1,_⟩:=DataW.trod_int Tryz.underlying2 g1
   obtain⟨ti,e2,_⟩:=DataW.trod_int Tryz.underlying2 h1
   simp at e0 e1 e2
   subst e0 e1 e2
   exact⟨[],⟨⟨px,py⟩,ti⟩,fo.nil _ _,⟨rfl,rfl⟩,trivial⟩
 exact⟨A,n,c,f,xs,h1,h2,h3⟩
theorem Fo (h:TT enc w fuel 28 cs x):∃A n c f,∃d:gF,cs=[.slice A n c]/\fo f 0 w.heap.size/\iy w f (.slice A n c) d.ai:=by
 obtain⟨hl,m,hf⟩:=kU Tryz.underlying28 h
 rw[show Tryz.prog.cellsOf _=1 from by kernel_rfl]at hl
 obtain⟨a,rfl⟩:=WK hl
 ·skip
  obtain⟨y0,h0⟩:=hf 0 _ rfl
  rw[show Tryz.prog.cellsOf _=1 from by kernel_rfl]at h0
  obtain⟨A1,n1,c1,f1,TN,e1,k1,s1⟩:=Ic h0
  simp at e1
  subst e1
  exact⟨A1,n1,c1,f1,⟨TN⟩,rfl,k1,s1⟩
theorem Df (h:TT enc w fuel 30 cs x):∃A0 n0 c0 f0 A1 n1 c1 f1 A2 n2 c2 f2,∃d:aw,cs=[.slice A0 n0 c0,.slice A1 n1 c1,.slice A2 n2 c2,.int .i64 d.ay]/\fo f0 0 w.heap.size/\pS w f0 (.slice A0 n0 c0) d.aI.aB/\fo f1 0 w.heap.size/\pT w f1 (.slice A1 n1 c1) d.aI.ai/\fo f2 0 w.heap.size/\iy w f2 (.slice A2 n2 c2) d.bh.ai/\(∀g∈d.aI.aB,g.aO.size<=9223372036854775807)/\∀t∈d.aI.ai,t.aO.size<=9223372036854775807:=by
 obtain⟨hl,m,hf⟩:=kU Tryz.underlying30 h
 rw[show Tryz.prog.cellsOf _=4 from by kernel_rfl]at hl
 obtain⟨a,b,c,d,rfl⟩:=WL hl
 ·skip
  obtain⟨y0,h0⟩:=hf 0 _ rfl
  obtain⟨y1,h1⟩:=hf 1 _ rfl
  obtain⟨y2,h2⟩:=hf 2 _ rfl
  rw[show Tryz.prog.cellsOf _=2 from by kernel_rfl]at h0
  rw[show Tryz.prog.cellsOf _=1 from by kernel_rfl]at h1 h2
  obtain⟨_,m2,tF⟩:=kU Tryz.underlying25 h0
  obtain⟨z0,g0⟩:=tF 0 _ rfl
  obtain⟨z1,g1⟩:=tF 1 _ rfl
  rw[show Tryz.prog.cellsOf _=1 from by kernel_rfl]at g0 g1
  obtain⟨A0,n0,c0,f0,xs0,e0,k0,s0,o0⟩:=Nz g0
  obtain⟨A1,n1,c1,f1,TN,e1,k1,s1,o1⟩:=NA g1
  obtain⟨A2,n2,c2,f2,d2,e2,k2,s2⟩:=Fo h1
  obtain⟨t,e3,_⟩:=DataW.trod_int Tryz.underlying2 h2
  simp at e0 e1 e2 e3
  subst e0 e1 e2 e3
  exact⟨A0,n0,c0,f0,A1,n1,c1,f1,A2,n2,c2,f2,⟨⟨xs0,TN⟩,d2,t⟩,rfl,k0,s0,k1,s1,k2,s2,o0,o1⟩
end
end Go.Proofs.YtgoelphibofcmaaGreat

namespace Go.Proofs.YtgoelphibofcmaaGreat
open Go.ChangeShapes Go.WideShapes Go.ChangeAt Go.RowKit V
theorem Tz:ownKnob Tryz.prog.godebug=none:=by kernel_rfl
theorem KE:laidOutB Tryz.prog=true:=by kernel_rfl
namespace V
theorem zH {H:Type} {enc:TypeId×Value->H} {w:World} {fuel:Nat} {cs:List Value} {x:DataW H×List MemPlace} (h:TT enc w fuel 77 cs x):∃A n c f xs,cs=[.slice A n c]/\fo f 0 w.heap.size/\iy w f (.slice A n c) xs:=by
 obtain⟨A,n,c,f,xs,h1,h2,h3,_⟩:=nr (rep:=wE) (Q:=fun _=>True) Tryz.underlying77 (sz:=3) (by kernel_rfl) (by omega) h fun n qp y hl hy=>by
  obtain⟨_,m,hf⟩:=kU Tryz.underlying68 hy
  obtain⟨a,b,c,rfl⟩:=Tp hl
  ·skip
   obtain⟨y0,h0⟩:=hf 0 _ rfl
   obtain⟨y1,h1⟩:=hf 1 _ rfl
   rw[show Tryz.prog.cellsOf _=2 from by kernel_rfl]at h0
   rw[show Tryz.prog.cellsOf _=1 from by kernel_rfl]at h1
   obtain⟨_,m2,tF⟩:=kU Tryz.underlying66 h0
   obtain⟨z0,g0⟩:=tF 0 _ rfl
   obtain⟨z1,g1⟩:=tF 1 _ rfl
   rw[show Tryz.prog.cellsOf _=1 from by kernel_rfl]at g0 g1
   obtain⟨px,e0,_⟩:=DataW.trod_int Tryz.underlying2 g0
   obtain⟨py,e1,_⟩:=DataW.trod_int Tryz.underlying2 g1
   obtain⟨ti,e2,_⟩:=DataW.trod_int Tryz.underlying2 h1
   simp at e0 e1 e2
   subst e0 e1 e2
   exact⟨[],⟨⟨px,py⟩,ti⟩,fo.nil _ _,⟨rfl,rfl⟩,trivial⟩
 exact⟨A,n,c,f,xs,h1,h2,h3⟩
end V
theorem Nf {s:aw} {es:List ab} (hl:es.length<=1048576):(Fa s es).1.length<=1152921504606846976:=by
 unfold Fa
 split
 ·rw[kz];omega
 ·simp
theorem Ng (s:aw) (a:List ab) (hn:fm s.aI):aq Tryz.prog 12 [.agg (ar s),.sl (a.map aa)] (.bool true):=
 Np Fa (fun s a hn hm _=>Ea s a hn hm.s.g hm.s.t) (fun s a hn hm hl=>D9 s a hn hm hl) (fun s a hm hl=>Nf hl) s a hn
theorem Qt (os:Os) (started:os.Started) (H:Type) (enc:TypeId×Value->H):
  ReturnsInHanded {} Tryz.checked os 12 .any (Rows.fnExactInputsOfSpec.pre6 enc Tryz.prog Tryz.f12 Rows.fnExactInputsOfRow.domain false) (Rows.fnExactInputsOfSpec.post enc Tryz.prog Tryz.f12 false true false false):=by
 refine returnsInHanded_of_change (C:=Tryz.checked) Tz started (by kernel_rfl) Tryz.func12
  (ChangeSpec.witness6 (enc:=enc) (C:=Tryz.checked) false ⟨#[], #[.agg #[.slice none 0 0,.slice none 0 0,.slice none 0 0,.int .i64 0],.slice none 0 0],[]⟩ 8 (by kernel_rfl) (by kernel_rfl) (by kernel_rfl) (by kernel_rfl)) ?_
 intro W base args ds gs before CH hW VQ _
 have pj:∀(j:Nat) t v,Tryz.f12.params[j]? =some t->args[j]? =some v->Value.okWide Tryz.prog W .any base t v:=CH
 have VJ:=hW
 obtain⟨p,q,Sg,hV,rfl,Cz,mE⟩:=hW
 have hA:DataW.TrodAll enc Tryz.prog W 0 (fun _=>true) true Tryz.f12.params.toList args.toList ds p:=Sg
 rw[Tryz.params12]at hA pj
 obtain⟨v0,vs0,d0,ds0,p0,q0,mQ,rfl,rfl,h0,r0⟩:=trodAll_cons hA
 obtain⟨v1,vs1,d1,ds1,p1,q1,rfl,rfl,rfl,h1,r1⟩:=trodAll_cons r0
 obtain⟨rfl,rfl,rfl⟩:=trodAll_nil r1
 obtain rfl:args= #[v0,v1]:=by cases args;simp_all
 obtain⟨rfl,rfl⟩:=trodVars_none hV
 obtain⟨L6,rfl,_⟩:=okWide_struct Tryz.underlying30 (pj 0 30 v0 rfl rfl)
 obtain⟨A3,n3,c3,rfl⟩:=okWide_slice Tryz.underlying77 (pj 1 77 v1 rfl rfl)
 have k0:=h0
 have k1:=h1
 have WM:∀x∈p0,x.block<W.heap.size:=by obtain⟨m,hm⟩:=k0;exact DataW.trod_lt m _ _ _ hm
 have OK:∀x∈p1,x.block<W.heap.size:=by obtain⟨m,hm⟩:=k1;exact DataW.trod_lt m _ _ _ hm
 obtain⟨A0,n0,c0,f0,A1,n1,c1,f1,A2,n2,c2,f2,s,dC,w0,s0,w1,s1,w2,s2,o0,o1⟩:∃A0 n0 c0 f0 A1 n1 c1 f1 A2 n2 c2 f2,∃d:aw,(Value.agg L6).cells.toList=[.slice A0 n0 c0,.slice A1 n1 c1,.slice A2 n2 c2,.int .i64 d.ay]/\fo f0 0 W.heap.size/\pS W f0 (.slice A0 n0 c0) d.aI.aB/\fo f1 0 W.heap.size/\pT W f1 (.slice A1 n1 c1) d.aI.ai/\fo f2 0 W.heap.size/\iy W f2 (.slice A2 n2 c2) d.bh.ai/\(∀g∈d.aI.aB,g.aO.size<=9223372036854775807)/\∀t∈d.aI.ai,t.aO.size<=9223372036854775807:=by
  obtain⟨fuel,hf⟩:=h0
  exact Df hf
 obtain⟨f3,a,w3,s3⟩:∃f,∃d:List ab,fo f 0 W.heap.size/\iy W f (.slice A3 n3 c3) d:=by
  obtain⟨fuel,hf⟩:=h1
  obtain⟨A,n,c,f,xs,e,w,z⟩:=zH hf
  simp[Value.cells]at e
  obtain⟨rfl,rfl,rfl⟩:=e
  exact⟨f,xs,w,z⟩
 obtain rfl:L6= #[.slice A0 n0 c0,.slice A1 n1 c1,.slice A2 n2 c2,.int .i64 s.ay]:=by
  cases L6;simp[Value.cells]at dC;subst dC;rfl
 clear Sg CH
 have gH:fF Tryz.prog W (fun b=>b<W.heap.size) (fun _=>none) [.agg (ar s),.sl (a.map aa)] #[.agg #[.slice A0 n0 c0,.slice A1 n1 c1,.slice A2 n2 c2,.int .i64 s.ay],.slice A3 n3 c3]:=by
  have h:=kC (wH s0 (fun b hb=>(w0 b hb).2) s1 (fun b hb=>(w1 b hb).2) s2 (fun b hb=>(w2 b hb).2)) (kC (oQ s3 (fun b hb=>(w3 b hb).2)) (⟨rfl,fun j b hj=>by cases j<;>cases hj⟩:fF Tryz.prog W (fun b=>b<W.heap.size) (fun _=>none) [] #[]))
  simpa using h
 have iv:=KG mixed (Ng s a ⟨o0,o1⟩) gH
 clear s0 s1 s2 s3 w0 w1 w2 w3 gH
 refine(iv.mono fun e W' ⟨he,bel⟩=>?_)
 subst he
 exact⟨_,rfl,_,_,_,[],_,[],VJ,trodAll_mk1 (shut_bool Tryz.underlying4 _),(trodAll_cons_mk (Below.trod KE (by kernel_rfl) (of_decide_eq_true (by kernel_rfl)) k0 bel WM) (trodAll_cons_mk (Below.trod KE (by kernel_rfl) (of_decide_eq_true (by kernel_rfl)) k1 bel OK) trodAll_mk0)),rfl,bel.frame _,fun h=>by cases h⟩
theorem TA:ownKnob Tryz.prog.godebug=none:=by kernel_rfl
theorem KF:laidOutB Tryz.prog=true:=by kernel_rfl
theorem K0 {s:aw} {es:List ab} (hl:es.length<=1048576):(rM s es).1.length<=1152921504606846976:=by
 unfold rM
 split
 ·rw[nf];omega
 ·simp
theorem K4 (s:aw) (a:List ab) (hn:fm s.aI):aq Tryz.prog 13 [.agg (ar s),.sl (a.map aa)] (.bool true):=
 KH rM (fun s a hn hm _=>BQ s a hn hm.s.g hm.s.t) (fun s a hn hm hl=>BP s a hn hm hl) (fun s a hm hl=>K0 hl) s a hn
theorem Di (os:Os) (started:os.Started) (H:Type) (enc:TypeId×Value->H):
  ReturnsInHanded {} Tryz.checked os 13 .any (Rows.fnExactOutputsOfSpec.pre6 enc Tryz.prog Tryz.f13 Rows.fnExactOutputsOfRow.domain false) (Rows.fnExactOutputsOfSpec.post enc Tryz.prog Tryz.f13 false true false false):=by
 refine returnsInHanded_of_change (C:=Tryz.checked) TA started (by kernel_rfl) Tryz.func13
  (ChangeSpec.witness6 (enc:=enc) (C:=Tryz.checked) false ⟨#[], #[.agg #[.slice none 0 0,.slice none 0 0,.slice none 0 0,.int .i64 0],.slice none 0 0],[]⟩ 8 (by kernel_rfl) (by kernel_rfl) (by kernel_rfl) (by kernel_rfl)) ?_
 intro W base args ds gs before CH hW VQ _
 have pj:∀(j:Nat) t v,Tryz.f13.params[j]? =some t->args[j]? =some v->Value.okWide Tryz.prog W .any base t v:=CH
 have VJ:=hW
 obtain⟨p,q,Sg,hV,rfl,Cz,mE⟩:=hW
 have hA:DataW.TrodAll enc Tryz.prog W 0 (fun _=>true) true Tryz.f13.params.toList args.toList ds p:=Sg
 rw[Tryz.params13]at hA pj
 obtain⟨v0,vs0,d0,ds0,p0,q0,mQ,rfl,rfl,h0,r0⟩:=trodAll_cons hA
 obtain⟨v1,vs1,d1,ds1,p1,q1,rfl,rfl,rfl,h1,r1⟩:=trodAll_cons r0
 obtain⟨rfl,rfl,rfl⟩:=trodAll_nil r1
 obtain rfl:args= #[v0,v1]:=by cases args;simp_all
 obtain⟨rfl,rfl⟩:=trodVars_none hV
 obtain⟨L6,rfl,_⟩:=okWide_struct Tryz.underlying30 (pj 0 30 v0 rfl rfl)
 obtain⟨A3,n3,c3,rfl⟩:=okWide_slice Tryz.underlying77 (pj 1 77 v1 rfl rfl)
 have k0:=h0
 have k1:=h1
 have WM:∀x∈p0,x.block<W.heap.size:=by obtain⟨m,hm⟩:=k0;exact DataW.trod_lt m _ _ _ hm
 have OK:∀x∈p1,x.block<W.heap.size:=by obtain⟨m,hm⟩:=k1;exact DataW.trod_lt m _ _ _ hm
 obtain⟨A0,n0,c0,f0,A1,n1,c1,f1,A2,n2,c2,f2,s,dC,w0,s0,w1,s1,w2,s2,o0,o1⟩:∃A0 n0 c0 f0 A1 n1 c1 f1 A2 n2 c2 f2,∃d:aw,(Value.agg L6).cells.toList=[.slice A0 n0 c0,.slice A1 n1 c1,.slice A2 n2 c2,.int .i64 d.ay]/\fo f0 0 W.heap.size/\pS W f0 (.slice A0 n0 c0) d.aI.aB/\fo f1 0 W.heap.size/\pT W f1 (.slice A1 n1 c1) d.aI.ai/\fo f2 0 W.heap.size/\iy W f2 (.slice A2 n2 c2) d.bh.ai/\(∀g∈d.aI.aB,g.aO.size<=9223372036854775807)/\∀t∈d.aI.ai,t.aO.size<=9223372036854775807:=by
  obtain⟨fuel,hf⟩:=h0
  exact Df hf
 obtain⟨f3,a,w3,s3⟩:∃f,∃d:List ab,fo f 0 W.heap.size/\iy W f (.slice A3 n3 c3) d:=by
  obtain⟨fuel,hf⟩:=h1
  obtain⟨A,n,c,f,xs,e,w,z⟩:=zH hf
  simp[Value.cells]at e
  obtain⟨rfl,rfl,rfl⟩:=e
  exact⟨f,xs,w,z⟩
 obtain rfl:L6= #[.slice A0 n0 c0,.slice A1 n1 c1,.slice A2 n2 c2,.int .i64 s.ay]:=by
  cases L6;simp[Value.cells]at dC;subst dC;rfl
 clear Sg CH
 have gH:fF Tryz.prog W (fun b=>b<W.heap.size) (fun _=>none) [.agg (ar s),.sl (a.map aa)] #[.agg #[.slice A0 n0 c0,.slice A1 n1 c1,.slice A2 n2 c2,.int .i64 s.ay],.slice A3 n3 c3]:=by
  have h:=kC (wH s0 (fun b hb=>(w0 b hb).2) s1 (fun b hb=>(w1 b hb).2) s2 (fun b hb=>(w2 b hb).2)) (kC (oQ s3 (fun b hb=>(w3 b hb).2)) (⟨rfl,fun j b hj=>by cases j<;>cases hj⟩:fF Tryz.prog W (fun b=>b<W.heap.size) (fun _=>none) [] #[]))
  simpa using h
 have iv:=KG mixed (K4 s a ⟨o0,o1⟩) gH
 clear s0 s1 s2 s3 w0 w1 w2 w3 gH
 refine(iv.mono fun e W' ⟨he,bel⟩=>?_)
 subst he
 exact⟨_,rfl,_,_,_,[],_,[],VJ,trodAll_mk1 (shut_bool Tryz.underlying4 _),(trodAll_cons_mk (Below.trod KF (by kernel_rfl) (of_decide_eq_true (by kernel_rfl)) k0 bel WM) (trodAll_cons_mk (Below.trod KF (by kernel_rfl) (of_decide_eq_true (by kernel_rfl)) k1 bel OK) trodAll_mk0)),rfl,bel.frame _,fun h=>by cases h⟩
end Go.Proofs.YtgoelphibofcmaaGreat

namespace Go.Proofs.YtgoelphibofcmaaGreat
open Go.ChangeShapes Go.WideShapes Go.ChangeAt Go.RowKit
theorem ouN:Tryz.pinned.checked.prog.funcNamed Rows.fnExactOutputsOfRow.func=some 13:=by kernel_rfl
theorem ouJ:joinedFacts Tryz.pinned.checked.prog 13 Tryz.f13 Rows.fnExactOutputsOfSpec Rows.fnExactOutputsOfRow=true:=by
 unfold joinedFacts
 repeat(with_reducible refine Bool.and_eq_true_iff.2 ⟨?_,by as_aux_lemma=>kernel_rfl⟩)
 as_aux_lemma=>kernel_rfl
theorem ouI:Tryz.f13.isInstance Tryz.pinned.checked.prog Rows.fnExactOutputsOfRow.origin Rows.fnExactOutputsOfRow.targs:=of_decide_eq_true (by kernel_rfl)
theorem ouW:Tryz.f13.isWrapper Tryz.pinned.checked.prog Rows.fnExactOutputsOfRow.wrapper Rows.fnExactOutputsOfRow.mainSum:=by
 unfold Func.isWrapper;first|(rw[if_pos (by decide+kernel)];kernel_rfl)|(rw[if_neg (by decide+kernel)];exact⟨rfl,rfl⟩)
theorem Ik:Rows.fnExactOutputsOfRow.holds Tryz.pinned (OpenSpec.ofChange Rows.fnExactOutputsOfSpec):=
 OpenClaim.holds_of_wide 13 Tryz.f13 rfl rfl rfl rfl rfl rfl rfl ⟨rfl,rfl,rfl,rfl,rfl⟩ rfl rfl rfl rfl rfl ouN Tryz.func13 ouJ ouI ouW
  (fun os started H enc _=>Di os started H enc)
theorem fnExactOutputsOf_proved:Rows.FnExactOutputsOfSaid:=Ik
end Go.Proofs.YtgoelphibofcmaaGreat
